/- Contract of strings.NewReplacer at the four signs. -/
import Derived.Test.YtjonkbdldebkiaaGreatDoorVMkRep1
import Derived.Test.YtjonkbdldebkiaaGreatDoorVMkTree10
import Derived.Deep.WholeRow
import Derived.Great.Walk
import Derived.Lib.ConvBytes
import Derived.Test.YtjonkbdldebkiaaGreatDoorVMkClean4
set_option linter.unusedVariables false
set_option linter.unusedSimpArgs false
set_option maxHeartbeats 8000000
set_option maxRecDepth 100000
namespace Mk
def reps:List (UInt8 × Bs):=[(38,[38,97,109,112,59]),(60,[38,108,116,59]),(62,[38,103,116,59]),(34,[38,113,117,111,116,59])]
def olds:List Bs:=[[38],[38,97,109,112,59],[60],[38,108,116,59],[62],[38,103,116,59],[34],[38,113,117,111,116,59]]
theorem olds_at (k:Nat) (h:k < 4):∃ c n,reps[k]? = some (c,n)∧olds[2 * k]? = some [c]∧olds[2 * k + 1]? = some n∧4≤n.length∧n.length≤6:=by
 match k,h with
 | 0,_=>exact⟨_,_,rfl,rfl,rfl,by decide,by decide⟩
 | 1,_=>exact⟨_,_,rfl,rfl,rfl,by decide,by decide⟩
 | 2,_=>exact⟨_,_,rfl,rfl,rfl,by decide,by decide⟩
 | 3,_=>exact⟨_,_,rfl,rfl,rfl,by decide,by decide⟩
theorem q4i (b:UInt8):esc b=(reps.lookup b).getD [b]:=by
 unfold esc reps
 by_cases h1:b=38
 ·subst h1;rfl
 by_cases h2:b=60
 ·subst h2;rfl
 by_cases h3:b=62
 ·subst h3;rfl
 by_cases h4:b=34
 ·subst h4;rfl
 have q:∀ x:UInt8,b ≠ x→(b == x)=false:=fun x h=>by simpa using h
 simp[List.lookup,q _ h1,q _ h2,q _ h3,q _ h4,h1,h2,h3,h4]
end Mk
namespace Go.Proofs.YtjonkbdldebkiaaGreatDoor
open Go.Proofs.Tryz Go.RowKit
theorem q2a (A:Nat) (w:World) (hA:∀ (j:Nat) (u:Value),(Y6 Mk.olds)[j]? = some u→w.cell? ((⟨A,0,none⟩:Addr).add j)=some u) :
  Calls prog 203 #[.slice (some ⟨A,0,none⟩) 8 8] w fun e w'=>∃ R ao cap,e=.returned (.pointer (some ⟨R,0,none⟩))∧w.heap.size≤R∧Blk w' R 290 #[.int .u32 0,.int .i32 0,.int .u32 0,.nilIface,.slice ao 8 cap]∧w'.ownsRow w.heap.size 9 1 (.slice ao 8 cap) 8 (Y6 Mk.olds)∧(Value.slice ao 8 cap).ownBlock ≠ some R∧Below w.heap.size w w':=by
 have HA:=Ld hA;obtain⟨i0,hi,hz0,hz1,hz2⟩:=info_parts Tryz.infoStr;clear hA;go_enter func203,ntmps203;go_wp2_with (at_builtin;refine wpList_append_own _ rfl _ _ 24 rfl w.heap.size 9 i0 (.string ⟨#[]⟩) 1 16 underlying24 hi hz0 hz1 hz2 rfl (by decide) _ _ _ rfl (World.ownsRow_nil w _ _ _) ⟨A,0,none⟩ 8 8 (Y6 Mk.olds) rfl rfl HA.out (by intro u hu;simp[Y6,Mk.olds] at hu;rcases hu with rfl | rfl | rfl | rfl | rfl | rfl | rfl | rfl <;> rfl) (by decide) (by decide) (by simp) ?_);intro v' w1 hown hgrow hnil;obtain⟨ao,cap,rfl⟩:=Z9 hown;have hb:=((Below.refl _ w).grown hgrow (Lr) (by intro k hk;cases hk));have HE:=Ld (And.intro hgrow.size (And.intro (Blk.new w1 290 #[.int .u32 0,.int .i32 0,.int .u32 0,.nilIface,.slice ao 8 cap]) (And.intro (z0f hown ((Ap.refl (fun _=>False) w1).alloc (.cells #[.int .u32 0,.int .i32 0,.int .u32 0,.nilIface,.slice ao 8 cap] 290)) (fun _ _ q=>q)) (And.intro (fun e=>by have:=(hown.lt _ e).2;omega:(Value.slice ao 8 cap).ownBlock ≠ some w1.heap.size) (hb.alloc hb.size (.cells #[.int .u32 0,.int .i32 0,.int .u32 0,.nilIface,.slice ao 8 cap] 290))))));clear hown hgrow hnil hb hi hz0 hz1 hz2 HA;go_wp2_with fail;go_ret;exact⟨w1.heap.size,ao,cap,rfl,HE.out⟩
def repC (s:Value):Array Value:=(Array.replicate 256 (.slice none 0 0)).push s
theorem q6w (a:Option Addr) (n c:Nat):prog.built 329 [(1,.slice a n c)]=some (repC (.slice a n c)):=by kernel_rfl
theorem j01:(prog.info? 329).map (fun i=>(i.zero,i.size))=some (some (.agg (repC (.slice none 0 0))),257):=by kernel_rfl
theorem rep_size (s:Value):(repC s).size=257:=by simp[repC]
theorem rep_one (a:Option Addr) (n c:Nat):(repC (.slice a n c)).all (·.oneCell')=true:=by
 rw[Array.all_eq_true_iff_forall_mem];intro u hu;unfold repC at hu
 rcases Array.mem_push.1 hu with q | q
 ·rw[(Array.mem_replicate.1 q).2];rfl
 ·rw[q];rfl
theorem j6x (ρ:Operand→Value) (o:Oper) (ho:o.op=.alloc 329) (w:World):(execOp ρ o).run prog w=.ok (.value (.pointer (some ⟨w.heap.size,0,none⟩))) (w.alloc (.cells (repC (.slice none 0 0)) 329)):=by
 obtain⟨hz,hs⟩:=zero_of_info j01;unfold execOp;simp[ho,Instr.alloc,hz,Sem.run_bind,Result.andThen,newVar,Value.cells];rfl
def q97 (w:World) (K:Nat→Prop) (v:Value) (l:List UInt8):Prop:=∃ g cap,v=.slice (some ⟨g,0,none⟩) l.length cap∧K g∧∀ (i:Nat) (u:Value),(Lib.byteCells l)[i]? = some u→w.cell? ⟨g,i,none⟩=some u
def RepC (w:World) (K:Nat→Prop) (m:List (UInt8 × List UInt8)) (cs:Array Value):Prop:=∀ b:UInt8,(m.lookup b=none→cs[b.toNat]? = some (.slice none 0 0))∧∀ l,m.lookup b=some l→∃ v,cs[b.toNat]? = some v∧q97 w K v l
def RepB (w:World) (B N k:Nat):Prop:=∃ (cs:Array Value) (ao:Option Addr) (cap:Nat) (xs:List Value) (K:Nat→Prop),Blk w N 329 cs∧cs.size=257∧cs[256]? = some (.slice ao (4 - k) cap)∧w.ownsRow B 9 1 (.slice ao (4 - k) cap) (4 - k) xs∧(Value.slice ao (4 - k) cap).ownBlock ≠ some N∧(∀ g,K g→B≤g∧g < w.heap.size∧g ≠ N∧(Value.slice ao (4 - k) cap).ownBlock ≠ some g)∧xs=Y6 ((Mk.reps.drop k).reverse.map fun x=>[x.1])∧RepC w K (Mk.reps.drop k) cs
theorem repB_new {w1:World} {B:Nat} (hown:w1.ownsRow B 9 1 (.slice (some ⟨B,0,none⟩) 0 4) 0 []) (hB:B≤w1.heap.size):RepB (w1.alloc (.cells (repC (.slice (some ⟨B,0,none⟩) 0 4)) 329)) B w1.heap.size 4:=by
 refine⟨repC (.slice (some ⟨B,0,none⟩) 0 4),some ⟨B,0,none⟩,4,[],fun _=>False,Blk.new w1 _ _,rep_size _,?_,z0f hown ((Ap.refl (fun _=>False) w1).alloc _) (fun _ _ q=>q),?_,fun _ q=>q.elim,rfl,?_⟩
 ·unfold repC
  rw[Array.getElem?_push,if_pos (by simp)]
 ·intro e
  have:=(hown.lt _ e).2;omega
 ·intro b
  refine⟨fun _=>?_,fun l e=>by cases e⟩;have hb:=b.toNat_lt;unfold repC;rw[Array.getElem?_push,if_neg (by simp;omega),Array.getElem?_replicate,if_pos (by omega)]
theorem below_bytesWorld (w:World) (e:TypeId) (s:ByteArray):Below w.heap.size w (Lib.bytesWorld w e s) :=
 ⟨by simp[Lib.bytesWorld,World.freeze,World.alloc,World.drew,-World.alloc_eq,-World.drew_eq],by simp[Lib.bytesWorld,World.freeze,World.alloc,World.drew,-World.alloc_eq,-World.drew_eq],by simp[Lib.bytesWorld,World.freeze,World.alloc,World.drew,-World.alloc_eq,-World.drew_eq],by rw[Lib.bytesWorld_size];omega,fun k hk=>Lib.bytesWorld_at_old w e s k hk⟩
theorem q97.frame {w w':World} {K K':Nat→Prop} {v:Value} {l:List UInt8} (h:q97 w K v l) (hk:∀ b,K b→K' b∧w'.heap[b]? = w.heap[b]?):q97 w' K' v l:=by
 obtain⟨g,cap,h1,h2,h3⟩:=h;exact⟨g,cap,h1,(hk g h2).1,fun i u q=>(cell_of_block (hk g h2).2 _).trans (h3 i u q)⟩
theorem j6y {j:Nat} {c:UInt8} {n:List UInt8} (h:Mk.reps[j]? = some (c,n)):Mk.reps.drop j=(c,n) :: Mk.reps.drop (j + 1):=by
 have hj:j < Mk.reps.length:=by
  rcases Nat.lt_or_ge j Mk.reps.length with q | q
  ·exact q
  ·rw[List.getElem?_eq_none q] at h;cases h
 rw[List.drop_eq_getElem_cons hj];rw[List.getElem?_eq_getElem hj] at h;injection h with h;rw[h]
theorem RepB.step {w w10:World} {B N j m:Nat} {c:UInt8} {n:List UInt8} {cs:Array Value} {ao ao':Option Addr} {capr cap' cap9:Nat} {xs:List Value} {K:Nat→Prop} (hj:Mk.reps[j]? = some (c,n)) (hlk:(Mk.reps.drop (j + 1)).lookup c=none)
  (hcs:cs.size=257) (hown:w.ownsRow B 9 1 (.slice ao m capr) m xs) (hm:4 - j=m + 1) (hNl:N < w.heap.size)
  (hK:∀ g,K g→B≤g∧g < w.heap.size∧g ≠ N∧(Value.slice ao m capr).ownBlock ≠ some g) (hxs:xs=Y6 ((Mk.reps.drop (j + 1)).reverse.map fun x=>[x.1])) (hrc:RepC w K (Mk.reps.drop (j + 1)) cs) (hBw:B≤w.heap.size)
  (hkeep:∀ b,b < w.heap.size→(Value.slice ao m capr).ownBlock ≠ some b→b ≠ N→w10.heap[b]? = w.heap[b]?) (hN10:Blk w10 N 329 (cs.setIfInBounds 256 (.slice ao' (m + 1) cap'))) (hrow:w10.ownsRow B 9 1 (.slice ao' (m + 1) cap') (m + 1) (xs++[.string (st [c])]))
  (hvN:(Value.slice ao' (m + 1) cap').ownBlock ≠ some N) (hfr:∀ g,(Value.slice ao' (m + 1) cap').ownBlock=some g→g < w.heap.size→(Value.slice ao m capr).ownBlock=some g) (hs:w.heap.size≤w10.heap.size) :
  RepB ((Lib.bytesWorld w10 5 (st n)).setCell ⟨N,c.toNat,none⟩ (.slice (some ⟨w10.heap.size,0,none⟩) n.length cap9)) B N j:=by
 have hdr:=j6y hj;have hc7:=c.toNat_lt;have hsz:((Lib.bytesWorld w10 5 (st n)).setCell ⟨N,c.toNat,none⟩ (.slice (some ⟨w10.heap.size,0,none⟩) n.length cap9)).heap.size=w10.heap.size + 1:=by
  have:=Lib.bytesWorld_size w10 5 (st n)
  simpa [World.setCell] using this
 have hold:∀ b,b < w10.heap.size→b ≠ N→((Lib.bytesWorld w10 5 (st n)).setCell ⟨N,c.toNat,none⟩ (.slice (some ⟨w10.heap.size,0,none⟩) n.length cap9)).heap[b]? = w10.heap[b]?:=fun b q1 q2=>(Below.heap_setCell _ ⟨N,c.toNat,none⟩ _ b q2).trans (Lib.bytesWorld_at_old w10 5 (st n) b q1)
 have hblk:Blk (Lib.bytesWorld w10 5 (st n)) N 329 (cs.setIfInBounds 256 (.slice ao' (m + 1) cap')):=(Lib.bytesWorld_at_old w10 5 (st n) N (by omega)).trans hN10;rw[hm.symm] at hrow hvN hfr hblk;have hrest:∀ b,K b→(K b∨b=w10.heap.size)∧((Lib.bytesWorld w10 5 (st n)).setCell ⟨N,c.toNat,none⟩ (.slice (some ⟨w10.heap.size,0,none⟩) n.length cap9)).heap[b]? = w.heap[b]?:=fun b q=>⟨.inl q,(hold b (Nat.lt_of_lt_of_le (hK b q).2.1 hs) (hK b q).2.2.1).trans (hkeep b (hK b q).2.1 (hK b q).2.2.2 (hK b q).2.2.1)⟩
 refine⟨_,ao',cap',xs++[.string (st [c])],fun b=>K b∨b=w10.heap.size,Blk.set_ hblk c.toNat _,by simp[hcs],?_,?_,hvN,?_,?_,?_⟩
 ·rw[Array.getElem?_setIfInBounds_ne (by omega),Array.getElem?_setIfInBounds_self_of_lt (by omega)]
 ·exact V7 (by rw[hm];rw[hm] at hrow;exact hrow) (fun g e=>hold g (hrow.lt g (by rw[← e,hm])).2 (fun q=>hvN (by rw[e,q])))
 ·rintro b (q | q)
  ·refine⟨(hK b q).1,by rw[hsz];have:=(hK b q).2.1;omega,(hK b q).2.2.1,fun e=>?_⟩
   exact(hK b q).2.2.2 (hfr b e (hK b q).2.1)
  ·subst q
   refine⟨by omega,by rw[hsz];omega,by omega,fun e=>?_⟩;have:=(hrow.lt _ e).2;omega
 ·rw[hdr,hxs]
  simp[Y6]
 ·rw[hdr]
  intro b
  by_cases hbc:b=c
  ·subst hbc
   refine⟨fun e=>by simp[List.lookup] at e,fun l e=>?_⟩;have e:some n=some l:=by simpa [List.lookup] using e
   injection e with e;subst e;refine⟨_,Array.getElem?_setIfInBounds_self_of_lt (by simp;omega),w10.heap.size,cap9,rfl,.inr rfl,fun i u q=>?_⟩;have hil:i < n.length:=by
    rcases Nat.lt_or_ge i n.length with q1 | q1
    ·exact q1
    ·rw[List.getElem?_eq_none (by simpa [Lib.byteCells] using q1)] at q;cases q
   rw[World.cell?_setCell_other _ ⟨N,b.toNat,none⟩ ⟨w10.heap.size,i,none⟩ _ (by intro e;injection e with e;omega),Lib.bytesWorld_cell w10 5 (st n) i hil];rw[← q];simp[Lib.byteCells,List.getD,List.getElem?_eq_getElem hil,st]
  ·have hbn:(b == c)=false:=by simpa using hbc
   have hb2:b.toNat ≠ c.toNat:=fun e=>hbc (UInt8.toNat_inj.1 e)
   have hb3:=b.toNat_lt;have hlb:List.lookup b ((c,n) :: Mk.reps.drop (j + 1))=List.lookup b (Mk.reps.drop (j + 1)):=by simp[List.lookup,hbn]
   have hcb:((cs.setIfInBounds 256 (.slice ao' (4 - j) cap')).setIfInBounds c.toNat (.slice (some ⟨w10.heap.size,0,none⟩) n.length cap9))[b.toNat]? = cs[b.toNat]?:=by
    rw[Array.getElem?_setIfInBounds_ne (fun e=>hb2 e.symm),Array.getElem?_setIfInBounds_ne (by omega)]
   rw[hlb];refine⟨fun e=>hcb.trans ((hrc b).1 e),fun l e=>?_⟩;obtain⟨v,q1,q2⟩:=(hrc b).2 l e;exact⟨v,hcb.trans q1,q2.frame hrest⟩
theorem st_build (R g cap:Nat) (w:World) (hgl:g < w.heap.size) (hR:w.cell? ⟨R,4,none⟩=some (.slice (some ⟨g,0,none⟩) 8 cap)) (hA:∀ (j:Nat) (u:Value),(Y6 Mk.olds)[j]? = some u→w.cell? ⟨g,j,none⟩=some u) :
  Calls prog 280 #[.pointer (some ⟨R,0,none⟩)] w fun e w'=>∃ N,e=.returned (.iface 330 (.pointer (some ⟨N,0,none⟩)))∧w.heap.size≤N∧RepB w' w.heap.size N 0∧Below w.heap.size w w':=by
 have HR:Hid (∀ k,k < 4→∃ c n,Mk.reps[k]? = some (c,n)∧w.cell? ⟨g,2 * k,none⟩=some (.string (st [c]))∧w.cell? ⟨g,2 * k + 1,none⟩=some (.string (st n))∧4≤n.length∧n.length≤6):=fun k hk=>by
  obtain⟨c,n,h1,h2,h3,h4,h5⟩:=Mk.olds_at k hk;exact⟨c,n,h1,hA _ _ (by simp[Y6,h2]),hA _ _ (by simp[Y6,h3]),h4,h5⟩
 clear hA;have hst:∀ l:List UInt8,(st l).toList=l:=fun l=>Lib.toList_data _
 go_enter func280,ntmps280;go_wp2_with fail
 go_loopw [4,5] (fun ab i wr=>∃ k:Nat,k≤4∧i=.int .i64 (2 * k:Nat)∧ab=.bool (k == 0)∧wr=w) (fun _ i _=>8 - (intOf i).toNat)
 case atStart=>exact⟨0,by omega,rfl,rfl,rfl⟩
 case round =>
  obtain⟨k,hk,rfl,rfl,rfl⟩:=hrel
  by_cases hlt:k < 4
  ·obtain⟨c,n,h1,y0,y1,h4,h5⟩:=HR.out k hlt
   have hn1:¬ (n.length:Int)=1:=by omega
   have hk2:((2 * k:Nat):Int) < 8:=by omega
   have hk3:((2 * k:Nat):Int) + 1 < 8:=by omega
   have hk0:(0:Int)≤(2 * k:Nat):=by omega
   have e1:(st [c]).size=1:=rfl;have e2:(st n).size=n.length:=Z4 n;clear h1;go_wp2_with fail;go_roundw
   case rel=>exact⟨k + 1,by omega,by congr 1,by simp,trivial⟩
   case measure=>simp[intOf];omega
  ·have:k=4:=by omega
   subst this;obtain⟨wa,hwa⟩:∃ x,x=wr:=⟨_,rfl⟩;subst hwa;clear hk hlt;go_upto_region 26 with fail;clear hR;obtain⟨i0,hi,hz0,hz1,hz2⟩:=info_parts Tryz.infoStr;go_wp2_with (at_make;refine wpList_make_own wa rfl _ _ 24 rfl wa.heap.size 9 i0 (.string ⟨#[]⟩) 1 underlying24 hi hz0 hz1 .i64 .i64 4 4 rfl rfl rfl (by rw[hz2];decide) (by decide) (Lr) ?_);intro w1 hown hgrow;obtain⟨hz,hs⟩:=zero_of_info j01;refine wpList_build rfl 329 #[(1,.tmp 94)] rfl ?_ ?_
   ·simp only [List.map_toArray,List.map_cons,List.map_nil]
    show (prog.built 329 [(1,.slice (some ⟨wa.heap.size,0,none⟩) 0 4)]).isSome=true;rw[q6w];rfl
   ·simp only [List.map_toArray,List.map_cons,List.map_nil]
    change wpList _ _ _ _ (Act.put _ _ (.agg ((prog.built 329 [(1,.slice (some ⟨wa.heap.size,0,none⟩) 0 4)]).getD #[]))) w1;rw[q6w];refine Great.wpList_runTo rfl (some 11) rfl (.pointer (some ⟨w1.heap.size,0,none⟩)) (w1.alloc (.cells (repC (.slice none 0 0)) 329)) (j6x _ _ rfl w1) ?_;refine wpList_store_row rfl 329 (.tmp 11) (.tmp 95) rfl w1.heap.size (repC (.slice (some ⟨wa.heap.size,0,none⟩) 0 4)) rfl rfl 329 (repC (.slice none 0 0)) (heap_alloc_last w1 _) (by rw[rep_size];exact hs) (by rw[rep_size,rep_size]) (rep_one _ _ _) ?_;rw[World.setRow_alloc_new];change wpList _ _ _ _ _ _;have hb0:Below wa.heap.size wa (w1.alloc (.cells (repC (.slice (some ⟨wa.heap.size,0,none⟩) 0 4)) 329)):=((Below.refl _ wa).grown hgrow (Lr) (by intro k hk;cases hk)).alloc hgrow.size _;have HREP:Hid (RepB (w1.alloc (.cells (repC (.slice (some ⟨wa.heap.size,0,none⟩) 0 4)) 329)) wa.heap.size w1.heap.size 4):=repB_new hown hgrow.size;have HBL:=Ld hb0;have hNB:wa.heap.size≤w1.heap.size:=hgrow.size;generalize hN:w1.heap.size=N at HREP HBL hNB ⊢;generalize (w1.alloc (.cells (repC (.slice (some ⟨wa.heap.size,0,none⟩) 0 4)) 329))=w2 at HREP HBL ⊢;clear hN hown hgrow hz hs hi hz0 hz1 hz2 hb0;go_wp2_with fail;have q50:∀ (w:World) (a:Option Addr) (n c n' c':Nat),(binOp .eql 94 (.slice a n c) (.slice none n' c')).run prog w=.ok (.bool a.isNone) w:=fun w a n c n' c'=>Lib.run_eql_slice_nil w _ _ a n c n' c' underlying94
    go_loopw [12] (fun i wx=>∃ k:Nat,k≤4∧i=.int .i64 (((2 * k:Nat):Int) - 2)∧Hid (RepB wx wa.heap.size N k)∧Hid (Below wa.heap.size wa wx)) (fun i _=>(intOf i + 2).toNat)
    case atStart=>exact⟨4,Lr,rfl,HREP.out,HBL.out⟩
    case round =>
     clear HREP HBL;obtain⟨k,hk,rfl,HREP,HBL⟩:=hrel
     cases k with
     | zero =>
      go_wp2_with fail;go_ret;exact⟨N,rfl,hNB,HREP.out,HBL.out⟩
     | succ j =>
      obtain⟨c,n,h1,y0,y1,h4,h5⟩:=HR.out j (by omega);rw[← HBL.out.cell (p:=⟨g,_,none⟩) hgl] at y0 y1;rw[show (((2 * (j + 1):Nat):Int) - 2)=((2 * j:Nat):Int) by omega];have hk2:((2 * j:Nat):Int) < 8:=by omega
      have hk3:((2 * j:Nat):Int) + 1 < 8:=by omega
      have hk0:(0:Int)≤(2 * j:Nat):=by omega
      have hc6:=c.toNat_lt;have hc7:(c.toNat:Int) < 256:=by omega
      have e1:(st [c]).size=1:=rfl;have e2:(st n).size=n.length:=Z4 n;have e3:∀ h,(st [c])[0]'h=c:=fun _=>rfl
      obtain⟨cs,ao,capr,xs,K,hB,hcs,h256,hown,hoN,hK,hxs,hrc⟩:=HREP.out;have hm4:4 - j=(4 - (j + 1)) + 1:=by omega
      have hm3:4 - (j + 1)≤3:=by omega
      generalize 4 - (j + 1)=m at h256 hown hoN hK hm4 hm3;have hlk:(Mk.reps.drop (j + 1)).lookup c=none:=by
       match j,hk with
       | 0,_=>cases h1;rfl
       | 1,_=>cases h1;rfl
       | 2,_=>cases h1;rfl
       | 3,_=>cases h1;rfl
      have c0:wr.cell? ⟨N,c.toNat,none⟩=some (.slice none 0 0):=(Blk.cell hB _).trans ((hrc c).1 hlk);have c6:wr.cell? ⟨N,256,none⟩=some (.slice ao m capr):=(Blk.cell hB _).trans h256;have hB9:wa.heap.size≤wr.heap.size:=HBL.out.size;have hNl:N < wr.heap.size:=Blk.lt hB;have P1:=Ld (Blk.new wr 5 #[.int .u8 c.toNat]);have hcv:(convert 94 9 (.slice (some ⟨wr.heap.size,0,none⟩) 1 1)).run prog (wr.alloc (.cells #[.int .u8 c.toNat] 5))=.ok (.string (st [c])) (wr.alloc (.cells #[.int .u8 c.toNat] 5)) :=
       z3v (P:=prog) (wr.alloc (.cells #[.int .u8 c.toNat] 5)) 94 9 5 underlying94 underlying5 underlying9 (base:=wr.heap.size) (n:=1) (v:=.slice (some ⟨wr.heap.size,0,none⟩) 1 1) [c] ⟨rfl,.inr ⟨wr.heap.size,1,_,rfl,Lr,P1.out,Lr,by decide,rfl,rfl⟩⟩
      have hal:=(((Below.refl wr.heap.size wr).alloc (Lr) (.cells #[.int .u8 c.toNat] 5)).alloc (by simp) (.cells #[.string (st [c])] 9));have OW:=Ld (z0f hown (((Ap.refl (fun _=>False) wr).alloc (.cells #[.int .u8 c.toNat] 5)).alloc (.cells #[.string (st [c])] 9)) (fun _ _ q=>q));have HNEW:Hid (∀ j u,[Value.string (st [c])][j]? = some u→((wr.alloc (.cells #[.int .u8 c.toNat] 5)).alloc (.cells #[.string (st [c])] 9)).cell? ((⟨wr.heap.size + 1,0,none⟩:Addr).add j)=some u):=by
       have q:=cell_one_new (wr.alloc (.cells #[.int .u8 c.toNat] 5)) (.string (st [c])) 9;rw[World.size_alloc] at q;exact q
      have HX:=Ld (And.intro hB (And.intro hcs (And.intro h256 (And.intro hown (And.intro hoN (And.intro hK (And.intro hxs hrc)))))));have H1:=Ld h1;have HLK:=Ld hlk;have HAL:=Ld hal;clear hB hcs h256 hoN hK hxs hrc h1 hlk hal;obtain⟨i0,hi,hz0,hz1,hz2⟩:=info_parts Tryz.infoStr;go_wp2_with (at_builtin;refine J3 rfl _ _ 24 rfl wa.heap.size 9 i0 (.string ⟨#[]⟩) 1 16 underlying24 hi hz0 hz1 hz2 rfl (by decide) _ _ _ rfl OW.out ⟨wr.heap.size + 1,0,none⟩ 1 1 [.string (st [c])] rfl rfl HNEW.out (one_cell _ rfl) (by decide) (by unfold maxLen;omega) (by omega) (by simp;omega) ?_);intro v' w9 hown' hgrow hfresh;obtain⟨ao',cap',hv'⟩:=Z9 hown';subst hv';obtain⟨hB,hcs,h256,hown0,hoN,hK,hxs,hrc⟩:=HX.out;have hkeep:∀ b,b < wr.heap.size→(Value.slice ao m capr).ownBlock ≠ some b→w9.heap[b]? = wr.heap[b]?:=fun b q1 q2=>(hgrow.block b (by simp;omega) (fun e=>q2 e.symm)).trans (HAL.out.block b q1)
      have hB9':Blk w9 N 329 cs:=(hkeep N hNl hoN).trans hB;have hBL9:=HBL.out.trans ((Ap.of_below HAL.out).grown (S:=fun x=>(Value.slice ao m capr).ownBlock=some x) hgrow (fun k _ e=>e) |>.below hB9 (fun k q1 q2=>by have:=(hown0.lt k q2).1;omega));have HBL9:=Ld hBL9;have d6:w9.cell? ⟨N,256,none⟩=some (.slice ao m capr):=(Blk.cell hB9' _).trans h256;have g6:w9.frozen? ⟨N,256,none⟩=false:=Blk.frozen hB9' _;have d7:w9.cell? ⟨N,c.toNat,none⟩=some (.slice none 0 0):=(cell_of_block (hkeep N hNl hoN) _).trans c0;have g7:w9.frozen? ⟨N,c.toNat,none⟩=false:=Blk.frozen hB9' _;have h9s:wr.heap.size≤w9.heap.size:=Nat.le_trans HAL.out.size hgrow.size;have hN9:N < w9.heap.size:=by omega
      have HB9:=Ld hB9';have HKP:=Ld hkeep;have HOW:=Ld hown';have HFR:=Ld hfresh;clear hB hcs h256 hown0 hoN hK hxs hrc hkeep hB9' hBL9 hown' hfresh hgrow OW HNEW P1 hcv y0 y1 c0 c6 HBL hi hz0 hz1 hz2 hown;clear e1 e2 e3;go_upto_region 34 with fail;have hfr9:∀ g,(Value.slice ao' (m + 1) cap').ownBlock=some g→g < wr.heap.size→(Value.slice ao m capr).ownBlock=some g:=fun g e q=>by
       rcases HFR.out with e' | e'
       ·rw[← e'];exact e
       ·rw[e] at e'
        injection e' with e'
        first | omega | (simp at e';omega)
      obtain⟨hB,hcs,h256,hown0,hoN,hK,hxs,hrc⟩:=HX.out;have hvN:(Value.slice ao' (m + 1) cap').ownBlock ≠ some N:=fun e=>hoN (hfr9 N e hNl)
      have HSTEP:=Ld (fun cap9=>RepB.step (cap9:=cap9) (w10:=w9.setCell ⟨N,256,none⟩ (.slice ao' (m + 1) cap')) H1.out HLK.out hcs hown0 hm4 hNl hK hxs hrc hB9 (fun b q1 q2 q3=>(Below.heap_setCell w9 ⟨N,256,none⟩ _ b q3).trans (HKP.out b q1 q2)) (Blk.set_ HB9.out 256 _) (ownsRow_setCell_other HOW.out (a:=⟨N,256,none⟩) hvN _) hvN hfr9 (by simpa [World.setCell] using h9s));have hcv:=Lib.run_convert_string_bytes (P:=prog) (w9.setCell ⟨N,256,none⟩ (.slice ao' (m + 1) cap')) 9 94 5 (st n) underlying9 underlying94 underlying5;have hbl:=HBL9.out.setCell (p:=⟨N,256,none⟩) hNB (.slice ao' (m + 1) cap');have d8:(w9.setCell ⟨N,256,none⟩ (.slice ao' (m + 1) cap')).cell? ⟨N,c.toNat,none⟩=some (.slice none 0 0):=(World.cell?_setCell_other _ ⟨N,256,none⟩ ⟨N,c.toNat,none⟩ _ (by intro e;injection e with _ e;omega)).trans d7;have g8:(w9.setCell ⟨N,256,none⟩ (.slice ao' (m + 1) cap')).frozen? ⟨N,c.toNat,none⟩=false:=Blk.frozen (Blk.set_ HB9.out 256 _) _;have hN10:N < (w9.setCell ⟨N,256,none⟩ (.slice ao' (m + 1) cap')).heap.size:=by simpa [World.setCell] using hN9
      clear hfr9 hB hcs h256 hown0 hoN hK hxs hrc hvN d6 g6 d7 g7 HREP HX HB9 HKP HOW HFR HBL9 hN9 hNl;generalize (w9.setCell ⟨N,256,none⟩ (.slice ao' (m + 1) cap'))=w10 at HSTEP hcv hbl d8 g8 hN10 ⊢;have d9:(Lib.bytesWorld w10 5 (st n)).cell? ⟨N,c.toNat,none⟩=some (.slice none 0 0):=(Lib.bytesWorld_old w10 5 (st n) ⟨N,c.toNat,none⟩ hN10).trans d8;have g9:(Lib.bytesWorld w10 5 (st n)).frozen? ⟨N,c.toNat,none⟩=false:=(z3s (Lib.bytesWorld_at_old w10 5 (st n) N hN10) _).trans g8;have HBF:Hid (∀ v,Below wa.heap.size wa ((Lib.bytesWorld w10 5 (st n)).setCell ⟨N,c.toNat,none⟩ v)):=fun v=>(hbl.trans ((below_bytesWorld w10 5 (st n)).mono hbl.size)).setCell (p:=⟨N,c.toNat,none⟩) hNB v
      clear hbl d8 g8;go_wp2_with fail;go_roundw
      case rel=>exact⟨j,by omega,by congr 1,HSTEP.out _,HBF.out _⟩
      case measure=>simp[intOf];omega
theorem RepB.frame {w w':World} {B N k:Nat} (h:RepB w B N k) (hb:∀ b,B≤b→b < w.heap.size→w'.heap[b]? = w.heap[b]?) (hs:w.heap.size≤w'.heap.size) (hN:B≤N):RepB w' B N k:=by
 obtain⟨cs,ao,cap,xs,K,h1,h2,h3,h4,h5,h6,h7,h8⟩:=h;have kp:∀ b,K b→K b∧w'.heap[b]? = w.heap[b]?:=fun b q=>⟨q,hb b (h6 b q).1 (h6 b q).2.1⟩
 refine⟨cs,ao,cap,xs,K,(hb N hN (Blk.lt h1)).trans h1,h2,h3,V7 h4 (fun g e=>hb g (h4.lt g e).1 (h4.lt g e).2),h5,fun g q=>⟨(h6 g q).1,Nat.lt_of_lt_of_le (h6 g q).2.1 hs,(h6 g q).2.2⟩,h7,fun b=>⟨(h8 b).1,fun l e=>?_⟩⟩;obtain⟨v,q1,q2⟩:=(h8 b).2 l e;exact⟨v,q1,q2.frame kp⟩
def OnceQ (R:Nat) (w w1:World):Prop:=∃ N,w.heap.size≤N∧Blk w1 R 290 #[.int .u32 0,.int .i32 1,.int .u32 0,.iface 330 (.pointer (some ⟨N,0,none⟩)),.slice none 0 0]∧RepB w1 w.heap.size N 0∧Ap (fun x=>x=R) w w1
theorem q76 (R g cap:Nat) (w:World) (hR:Blk w R 290 #[.int .u32 0,.int .i32 1,.int .u32 0,.nilIface,.slice (some ⟨g,0,none⟩) 8 cap]) (hgl:g < w.heap.size) (hA:∀ (j:Nat) (u:Value),(Y6 Mk.olds)[j]? = some u→w.cell? ⟨g,j,none⟩=some u) :
  Calls prog 247 #[.pointer (some ⟨R,0,none⟩)] w fun e w1=>e=.returned (.tuple #[])∧OnceQ R w w1:=by
 have HB:=Ld (st_build R g cap w hgl (Blk.cell hR 4) hA);have HR:=Ld hR;have hRl:=Blk.lt hR;clear hA hR;go_enter func247,ntmps247;go_wp2_with fail;refine HB.out.mono ?_;rintro e w2 ⟨N,rfl,hN,hrep,hb2⟩;have hR2:Blk w2 R 290 _:=Blk.below HR.out hb2 hRl;have c3:w2.cell? ⟨R,3,none⟩=some .nilIface:=Blk.cell hR2 3;have g3:w2.frozen? ⟨R,3,none⟩=false:=Blk.frozen hR2 3;have hR3:=Blk.set_ (Blk.set_ hR2 3 (.iface 330 (.pointer (some ⟨N,0,none⟩)))) 4 (.slice none 0 0);have c4:(w2.setCell ⟨R,3,none⟩ (.iface 330 (.pointer (some ⟨N,0,none⟩)))).cell? ⟨R,4,none⟩=some (.slice (some ⟨g,0,none⟩) 8 cap):=Blk.cell (Blk.set_ hR2 3 _) 4;have g4:(w2.setCell ⟨R,3,none⟩ (.iface 330 (.pointer (some ⟨N,0,none⟩)))).frozen? ⟨R,4,none⟩=false:=Blk.frozen (Blk.set_ hR2 3 _) 4;have HE:Hid (OnceQ R w ((w2.setCell ⟨R,3,none⟩ (.iface 330 (.pointer (some ⟨N,0,none⟩)))).setCell ⟨R,4,none⟩ (.slice none 0 0))):=by
  refine⟨N,hN,hR3,hrep.frame (fun b q1 q2=>?_) (by simp[World.setCell]) hN,((Ap.of_below (S:=fun x=>x=R) hb2).setCell (p:=⟨R,3,none⟩) rfl _).setCell (p:=⟨R,4,none⟩) rfl _⟩;rw[Below.heap_setCell _ ⟨R,4,none⟩ _ b (by show b ≠ R;omega),Below.heap_setCell _ ⟨R,3,none⟩ _ b (by show b ≠ R;omega)]
 clear HB HR hR2 hR3 hrep hb2;go_wp2_with fail;go_end0;exact⟨rfl,HE.out⟩
def Tells (s:List UInt8):Prop:=∀ W:World,Calls prog 94 #[.string (st s)] W fun e w'=>e=.returned (.string (st (Mk.put s)))∧Below W.heap.size W w'
end Go.Proofs.YtjonkbdldebkiaaGreatDoor
namespace Mk
theorem q7g (l:List At) (k:Nat) (h:k < l.length):written (l.take (k + 1))=written (l.take k)++([32]++l[k].n++[61,34]++put l[k].v++[34]):=by
 rw[written,List.take_succ_eq_append_getElem h,List.flatMap_append];simp[written]
theorem j3w (l:List At) (k:Nat):(written (l.take k)).length≤(written l).length:=by
 have h:written l=written (l.take k)++written (l.drop k):=by
  rw[written,written,written,← List.flatMap_append,List.take_append_drop]
 rw[h,List.length_append];omega
end Mk
namespace Go.Proofs.YtjonkbdldebkiaaGreatDoor
open Go.Proofs.Tryz Go.RowKit
theorem z7t (x y:List UInt8):st x++st y=st (x++y):=z3m (st x) (st y)
theorem j3n (l:List Mk.At) (v:Value) (K:Nat→Prop) (w:World) (hv:AtsV w K v l) (hK:∀ b,K b→b < w.heap.size) (hT:∀ a ∈ l,Tells a.v) (hl:(Mk.written l).length≤1099511627776) :
  Calls prog 115 #[v] w fun e w'=>e=.returned (.string (st (Mk.written l)))∧Below w.heap.size w w':=by
 have hst:∀ l:List UInt8,(st l).toList=l:=fun l=>Lib.toList_data _
 obtain⟨b,o,cap,hKb,hv1,hcl⟩:=hv.at_
 have HC:=Ld hcl;have HT:=Ld hT;have hlm:l.length≤9223372036854775807:=by obtain⟨_,_,_,_,_,q⟩:=hv;unfold maxLen at q;omega
 clear hcl hT hv
 rcases hv1 with hv1 | ⟨ao,hv1,hl0⟩
 ·subst hv1
  go_enter func115,ntmps115;go_wp2_with fail
  go_loopw [3,8] (fun s i wr=>∃ k:Nat,k≤l.length∧s=.string (st (Mk.written (l.take k)))∧i=.int .i64 k∧Hid (Below w.heap.size w wr)) (fun _ i _=>l.length - (intOf i).toNat)
  case atStart=>exact⟨0,Nat.zero_le _,rfl,rfl,Below.refl _ _⟩
  case round =>
   obtain⟨k,hk,rfl,rfl,BL⟩:=hrel
   by_cases hlt:k < l.length
   ·have hb:b < w.heap.size:=hK b (hKb (by intro e;subst e;simp at hlt))
    obtain⟨c0,c1⟩:=HC.out k hlt;rw[← BL.out.cell (p:=⟨b,_,none⟩) hb] at c0 c1;have HS:=Ld (Mk.q7g l k hlt);have hle:=Mk.j3w l (k + 1);have hTk:=HT.out _ (List.getElem_mem hlt);have HLE:Hid ((Mk.written (l.take (k + 1))).length≤(Mk.written l).length):=hle;rw[HS.out] at hle;simp only [List.length_append,List.length_cons,List.length_nil] at hle;generalize l[k]=a at c0 c1 HS hTk hle;generalize Mk.written (l.take k)=pre at HS hle ⊢;have PB:=Ld (Blk.new wr 56 #[.string (st a.n),.string (st a.v)]);have hal:=(Below.refl wr.heap.size wr).alloc (Lr) (.cells #[.string (st a.n),.string (st a.v)] 56);have BL1:=Ld (BL.out.trans (hal.mono BL.out.size));have HTK:=Ld hTk;go_upto_region 5 with fail;clear hTk hal c0 c1 BL;generalize (wr.alloc (.cells #[.string (st a.n),.string (st a.v)] 56))=w1 at PB BL1 ⊢;generalize wr.heap.size=N at PB ⊢;have n0:w1.cell? ⟨N,0,none⟩=some (.string (st a.n)):=Blk.cell PB.out 0;have n1:w1.cell? ⟨N,1,none⟩=some (.string (st a.v)):=Blk.cell PB.out 1;have hNl:N < w1.heap.size:=Blk.lt PB.out;have HFR:Hid (∀ W,Below w1.heap.size w1 W→W.cell? ⟨N,0,none⟩=some (.string (st a.n))∧W.cell? ⟨N,1,none⟩=some (.string (st a.v))):=fun W hW=>⟨(hW.cell (p:=⟨N,0,none⟩) hNl).trans n0,(hW.cell (p:=⟨N,1,none⟩) hNl).trans n1⟩
    have q1:¬ 9223372036854775807 < 1 + (st a.n).size:=by rw[Z4];omega
    have q2:¬ 9223372036854775807 < 1 + (st a.n).size + 2:=by rw[Z4];omega
    have q3:¬ 9223372036854775807 < 1 + (st a.n).size + 2 + (st (Mk.put a.v)).size:=by rw[Z4,Z4];omega
    have q4:¬ 9223372036854775807 < 1 + (st a.n).size + 2 + (st (Mk.put a.v)).size + 1:=by rw[Z4,Z4];omega
    have q5:¬ 9223372036854775807 < (st pre).size + (1 + (st a.n).size + 2 + (st (Mk.put a.v)).size + 1):=by rw[Z4,Z4,Z4];omega
    go_region_held3 (fun w'=>w'.cell? ⟨N,0,none⟩=some (.string (st a.n))∧w'.cell? ⟨N,1,none⟩=some (.string (st a.v))) (first
     | exact HFR.out _ ((Below.refl _ _).drew)
     | exact HFR.out _ hB2) (first | (go_at_call 94;refine(HTK.out _).mono ?_;rintro e w2 ⟨rfl,hb2⟩;have hB2:Below w1.heap.size w1 w2:=((Below.refl _ _).drew).trans hb2))
    all_goals
     have HV:Hid (st pre++((⟨#[32]⟩:ByteArray)++st a.n++⟨#[61,34]⟩++st (Mk.put a.v)++⟨#[34]⟩)=st (Mk.written (l.take (k + 1)))):=by
      show _=_;rw[HS.out,show (⟨#[32]⟩:ByteArray)=st [32] from rfl,show (⟨#[61,34]⟩:ByteArray)=st [61,34] from rfl,show (⟨#[34]⟩:ByteArray)=st [34] from rfl,z7t,z7t,z7t,z7t,z7t]
     have HB2:=Ld (BL1.out.trans (hB2.mono BL1.out.size));clear hb2 hB2 HFR q1 q2 q3 q4 q5 n0 n1 HTK hle;go_wp2_with fail;go_roundw
     case rel=>exact⟨k + 1,by omega,by rw[HV.out],by go_num,HB2.out⟩
     case measure=>simp[intOf];omega
   ·have hke:k=l.length:=by omega
    subst hke;rw[List.take_length];go_wp2_with fail;go_ret;exact⟨rfl,BL.out⟩
 ·subst hl0
  subst hv1;clear HC hK;go_enter func115,ntmps115;go_wp2_with fail
  go_loopw [3,8] (fun s i wr=>s=.string (st [])∧i=.int .i64 0∧wr=w) (fun _ _ _=>0)
  case atStart=>exact⟨rfl,rfl,rfl⟩
  case round =>
   obtain⟨rfl,rfl,rfl⟩:=hrel;go_wp2_with fail;go_ret;exact⟨rfl,Below.refl _ _⟩
theorem q1w (B b:Nat) (bs:List Value) (w:World) (h:Lib.IsBuilder 96 5 B b bs w) :
  Calls prog 153 #[.pointer (some ⟨b,0,none⟩)] w fun e w'=>e=.returned (.tuple #[])∧Lib.BuilderAt 96 5 B b (.pointer (some ⟨b,0,none⟩)) bs w'∧Below B w w'∧(∀ x,x ≠ b→w'.heap[x]? = w.heap[x]?)∧w'.cell? ⟨b,1,none⟩=w.cell? ⟨b,1,none⟩:=by
 rcases h with h | h
 ·refine(z6h b w h.cell0 h.shape h.frozen0).mono ?_
  rintro e w' ⟨rfl,rfl⟩;exact⟨rfl,h.used _,(Below.refl B w).setCell (p:=⟨b,0,none⟩) h.1 _,fun x hx=>Below.heap_setCell w ⟨b,0,none⟩ _ x hx,World.cell?_setCell_other _ ⟨b,0,none⟩ ⟨b,1,none⟩ _ (by simp)⟩
 ·refine(z7n b w h.cell0).mono ?_
  rintro e w' ⟨rfl,rfl⟩;exact⟨rfl,h,Below.refl B _,fun _ _=>rfl,rfl⟩
theorem z9x (B b:Nat) (bs:List Value) (s:ByteArray) (w:World) (h:Lib.IsBuilder 96 5 B b bs w) (hlen:bs.length + s.size≤140737488355328) (hBw:B≤w.heap.size) (N:Nat) (hN:N < w.heap.size) (hNb:N ≠ b) (hrow:∀ v,w.cell? ⟨b,1,none⟩=some v→v.ownBlock ≠ some N) :
  Calls prog 93 #[.pointer (some ⟨b,0,none⟩),.string s] w fun e w'=>e=.returned (.tuple #[.int .i64 s.size,.nilIface])∧Lib.BuilderAt 96 5 B b (.pointer (some ⟨b,0,none⟩)) (bs++Lib.strCells s) w'∧Below B w w'∧w'.heap[N]? = w.heap[N]?:=by
 obtain⟨i0,hi,hz0,hz1,hz2⟩:=info_parts Tryz.infoByte;have HROW:=Ld hrow;clear hrow;go_enter func93,ntmps93;go_wp2_with (go_at_call 153;refine(q1w B b bs _ h).mono ?_);rintro e w1 ⟨rfl,h1,hb1,hx1,hc1⟩;obtain⟨hB,v,hbk,hown,hne⟩:=h1;have c0:w1.cell? ⟨b,0,none⟩=some (.pointer (some ⟨b,0,none⟩)):=by rw[Lib.cell_of_heap hbk];rfl
 have c1:w1.cell? ⟨b,1,none⟩=some v:=by rw[Lib.cell_of_heap hbk];rfl
 have hvN:v.ownBlock ≠ some N:=HROW.out v (by rw[← hc1];exact c1);have HX1:=Ld hx1;clear hx1 hc1;go_wp2_with (at_builtin;refine Lib.wpList_append_own_string _ rfl _ _ 94 9 rfl B 5 i0 underlying94 underlying9 hi hz0 hz1 hz2 _ _ _ rfl hown s rfl ?c3 ?c4 ?c5 ?_)
 case c3=>unfold maxLen;omega
 case c4=>omega
 case c5=>have:=hb1.size;omega
 intro v' w2 hown' hgrow _;have hlt:b < w1.heap.size:=by
  rcases Nat.lt_or_ge b w1.heap.size with h' | h'
  ·exact h'
  ·simp[Array.getElem?_eq_none h'] at hbk
 have hb2:w2.heap[b]? = some (.cells #[.pointer (some ⟨b,0,none⟩),v] 96 (0,0)):=by
  rw[hgrow.block b hlt (fun e=>hne e.symm)];exact hbk
 have hN1:N < w1.heap.size:=by
  have h2:w1.heap[N]? = w.heap[N]?:=HX1.out N hNb;rw[Array.getElem?_eq_getElem hN] at h2
  rcases Nat.lt_or_ge N w1.heap.size with h' | h'
  ·exact h'
  ·simp[Array.getElem?_eq_none h'] at h2
 have HNN:Hid (∀ u,(w2.setCell ⟨b,1,none⟩ u).heap[N]? = w.heap[N]?):=fun u=>(Below.heap_setCell w2 ⟨b,1,none⟩ _ N hNb).trans ((hgrow.block N hN1 (fun e=>hvN e.symm)).trans (HX1.out N hNb))
 have d0:w2.cell? ⟨b,0,none⟩=some (.pointer (some ⟨b,0,none⟩)):=by rw[Lib.cell_of_heap hb2];rfl
 have d1:w2.cell? ⟨b,1,none⟩=some v:=by rw[Lib.cell_of_heap hb2];rfl
 have f1:w2.frozen? ⟨b,1,none⟩=false:=Lib.frozen_of_heap hb2 1;obtain⟨ao,n',cap,rfl⟩:∃ ao n' cap,v'=.slice ao n' cap:=by
  rcases hown'.2 with ⟨hv,_⟩ | ⟨g,cap,cur,hv,_⟩
  ·exact⟨_,_,_,hv⟩
  ·exact⟨_,_,_,hv⟩
 go_wp2;go_ret2;refine⟨rfl,?_,?_,HNN.out _⟩
 ·exact Lib.BuilderAt.put (T:=96) (e:=5) hB hb2 (bs':=bs++Lib.strCells s) (by simpa [Lib.strCells_length] using hown') (by decide)
 ·exact(hb1.grown hgrow (by have:=hb1.size;omega) (fun k hk=>(hown.lt k hk).1)).setCell (p:=⟨b,1,none⟩) hB _
theorem q7w {B b:Nat} {bs:List Value} {w:World} (h:Lib.IsBuilder 96 5 B b bs w):b < w.heap.size∧∀ v,w.cell? ⟨b,1,none⟩=some v→∀ g,v.ownBlock=some g→g < w.heap.size:=by
 have key:∀ p,Lib.BuilderAt 96 5 B b p bs w→b < w.heap.size∧∀ v,w.cell? ⟨b,1,none⟩=some v→∀ g,v.ownBlock=some g→g < w.heap.size:=by
  rintro p ⟨hB,v,hbk,hown,hne⟩;refine⟨?_,fun u hu g hg=>?_⟩
  ·rcases Nat.lt_or_ge b w.heap.size with h' | h'
   ·exact h'
   ·simp[Array.getElem?_eq_none h'] at hbk
  ·have:w.cell? ⟨b,1,none⟩=some v:=by rw[Lib.cell_of_heap hbk];rfl
   rw[this] at hu;injection hu with hu;subst hu;exact(hown.lt g hg).2
 exact h.elim (key _) (key _)
def z8a (t:Mk.Tok):Prop:=(t.kind=1→Tells t.text)∧∀ a ∈ t.ats,Tells a.v
theorem j1f (l:List Mk.Tok) (k:Nat) (h:k < l.length):Mk.bytes (l.take (k + 1))=Mk.bytes (l.take k)++Mk.z1s l[k]:=by
 rw[Mk.bytes,List.take_succ_eq_append_getElem h,List.flatMap_append];simp[Mk.bytes]
theorem bytes_le (l:List Mk.Tok) (k:Nat):(Mk.bytes (l.take k)).length≤(Mk.bytes l).length:=by
 have h:Mk.bytes l=Mk.bytes (l.take k)++Mk.bytes (l.drop k):=by
  rw[Mk.bytes,Mk.bytes,Mk.bytes,← List.flatMap_append,List.take_append_drop]
 rw[h,List.length_append];omega
theorem j0a (l:List Mk.Tok) (v:Value) (K:Nat→Prop) (w:World) (hv:q1v w K v l) (hK:∀ b,K b→b < w.heap.size) (hT:∀ t ∈ l,z8a t) (hl:(Mk.bytes l).length≤1099511627776) :
  Calls prog 98 #[v] w fun e w'=>e=.returned (.string (st (Mk.bytes l)))∧Below w.heap.size w w':=by
 have hst:∀ l:List UInt8,(st l).toList=l:=fun l=>Lib.toList_data _
 obtain⟨ao,cap,hv1,hlm,hat⟩:=hv.at_
 subst hv1;have hlm:l.length≤9223372036854775807:=by unfold maxLen at hlm;omega
 have HAT:=Ld hat
 have HT:=Ld hT;have HK:=Ld hK;have hbu:Lib.IsBuilder 96 5 w.heap.size w.heap.size (Lib.byteCells []) (w.alloc (.cells #[.pointer none,.slice none 0 0] 96)) :=
  .inl ⟨Lr,.slice none 0 0,heap_alloc_new w _,World.ownsRow_nil _ _ _ _,by simp[Value.ownBlock]⟩
 have hl0:=(Below.refl _ w).alloc (Lr) (.cells #[.pointer none,.slice none 0 0] 96);clear hat hT hK hv;go_enter func98,ntmps98;go_wp2_with fail;change Code.wp _ _ _ _ (w.alloc (.cells #[.pointer none,.slice none 0 0] 96));generalize w.alloc (.cells #[.pointer none,.slice none 0 0] 96)=w0 at hbu hl0 ⊢
 go_loopw [8] (fun i wr=>∃ k:Nat,k≤l.length∧i=.int .i64 k∧Hid (Lib.IsBuilder 96 5 w.heap.size w.heap.size (Lib.byteCells (Mk.bytes (l.take k))) wr)∧Hid (Below w.heap.size w wr)) (fun i _=>l.length - (intOf i).toNat)
 case atStart=>exact⟨0,Nat.zero_le _,rfl,hbu,hl0⟩
 case round =>
  clear hbu hl0;obtain⟨k,hk,rfl,BU,BL⟩:=hrel;have hsz:=BL.out.size
  by_cases hlt:k < l.length
  ·obtain⟨t,hkt⟩:∃ t,l[k]? = some t:=⟨_,List.getElem?_eq_getElem hlt⟩
   obtain⟨g,o,aot,capt,hao,hKg,hva,y0,y1,y2,y3⟩:=HAT.out k t hkt;subst hao;have hgl:=HK.out g hKg;rw[← BL.out.cell (p:=⟨g,_,none⟩) hgl] at y0 y1 y2 y3;have hge:l[k]=t:=by rw[List.getElem?_eq_getElem hlt] at hkt;injection hkt
   have hbs:=j1f l k hlt;have hle:=bytes_le l (k + 1);rw[hge] at hbs;rw[hbs,List.length_append] at hle;have htt:=HT.out t (by rw[← hge];exact List.getElem_mem hlt);have HBS:=Ld hbs;have hal:=(Below.refl wr.heap.size wr).alloc (Lr) (.cells #[.int .i64 t.kind,.string (st t.name),.slice aot t.ats.length capt,.string (st t.text)] 181);have BL1:=Ld (BL.out.trans (hal.mono hsz));have BU1:=Ld (z4c BU.out (fun k hk=>hal.block k hk));obtain⟨hbw,hbrow⟩:=q7w BU.out;have HROW:Hid (∀ v,(wr.alloc (.cells #[.int .i64 t.kind,.string (st t.name),.slice aot t.ats.length capt,.string (st t.text)] 181)).cell? ⟨w.heap.size,1,none⟩=some v→∀ g,v.ownBlock=some g→g < wr.heap.size):=fun v q=>hbrow v ((hal.cell (p:=⟨w.heap.size,1,none⟩) hbw).symm.trans q)
   have HVA:Hid (AtsV _ K (.slice aot t.ats.length capt) t.ats):=hva.frame (fun b q=>⟨q,BL1.out.block b (HK.out b q)⟩);have PB:=Ld (Blk.new wr 181 #[.int .i64 t.kind,.string (st t.name),.slice aot t.ats.length capt,.string (st t.text)]);have HTT:=Ld htt;clear hal hva htt hbs hge hkt BL BU hbrow;go_upto_region 5 with fail;clear y0 y1 y2 y3;generalize (wr.alloc (.cells #[.int .i64 t.kind,.string (st t.name),.slice aot t.ats.length capt,.string (st t.text)] 181))=w1 at PB BL1 BU1 HVA HROW ⊢;generalize wr.heap.size=N at PB HROW hbw ⊢;have n0:w1.cell? ⟨N,0,none⟩=some (.int .i64 t.kind):=Blk.cell PB.out 0;have n1:w1.cell? ⟨N,1,none⟩=some (.string (st t.name)):=Blk.cell PB.out 1;have n2:w1.cell? ⟨N,2,none⟩=some (.slice aot t.ats.length capt):=Blk.cell PB.out 2;have n3:w1.cell? ⟨N,3,none⟩=some (.string (st t.text)):=Blk.cell PB.out 3;have hNl:N < w1.heap.size:=Blk.lt PB.out;have hsz1:=BL1.out.size;have hbl:(Lib.byteCells (Mk.bytes (l.take k))).length≤1099511627776 - (Mk.z1s t).length:=by rw[Lib.byteCells_length];omega
   generalize Mk.bytes (l.take k)=pre at HBS hle BU1 hbl;have hbw1:w.heap.size < w1.heap.size:=by omega
   by_cases h1:t.kind=1
   ·have htb:Mk.z1s t=Mk.put t.text:=by unfold Mk.z1s;rw[if_pos h1]
    rw[htb] at HBS hle hbl;have HTL:=Ld (HTT.out.1 h1);rw[h1] at n0 PB ⊢;clear h1 htb;go_wp2_with fail;refine(HTL.out _).mono ?_;rintro e w2 ⟨rfl,hb2⟩;have BU2:=Ld (z4c BU1.out (fun k hk=>hb2.block k hk));have BL2:=Ld (BL1.out.trans (hb2.mono hsz1));have hsz2:=BL2.out.size;clear hb2 BU1 BL1 n0 n1 n2 n3 PB HVA HROW;go_wp2_with fail;refine(z1f w.heap.size w.heap.size _ (st (Mk.put t.text)) _ BU2.out (by rw[Z4];omega) hsz2).mono ?_;rintro e w3 ⟨rfl,hb3,hl3⟩;have BU3:Hid (Lib.IsBuilder 96 5 w.heap.size w.heap.size (Lib.byteCells (Mk.bytes (l.take (k + 1)))) w3):=by
     show Lib.IsBuilder _ _ _ _ _ _;rw[HBS.out,Lib.byteCells_append];exact .inr hb3
    have BL3:=Ld (BL2.out.trans hl3);clear hb3 hl3 BU2 BL2;go_wp2_with fail;go_roundw
    case rel=>exact⟨k + 1,by omega,by go_num,BU3.out,BL3.out⟩
    case measure=>simp[intOf];omega
   ·by_cases h2:t.kind=2
    ·have htb:Mk.z1s t=[60]++t.name++Mk.written t.ats++[62]:=by unfold Mk.z1s;rw[if_neg h1,if_pos h2]
     rw[htb] at HBS hle hbl;simp only [List.length_append,List.length_cons,List.length_nil] at hle hbl;have HWR:Hid (∀ W,Below w1.heap.size w1 W→Calls prog 115 #[.slice aot t.ats.length capt] W fun e w'=>e=.returned (.string (st (Mk.written t.ats)))∧Below W.heap.size W w'):=fun W hW=>j3n t.ats _ K W (HVA.out.frame (fun b q=>⟨q,hW.block b (by have:=HK.out b q;omega)⟩)) (fun b q=>by have:=HK.out b q;have:=hW.size;omega) HTT.out.2 (by omega)
     rw[h2] at n0 PB ⊢;clear h1 h2 htb;go_upto_region 9 with fail;have HFR:Hid (∀ W:World,W.heap[N]? = w1.heap[N]?→W.cell? ⟨N,1,none⟩=some (.string (st t.name))∧W.cell? ⟨N,2,none⟩=some (.slice aot t.ats.length capt)):=fun W hW=>⟨(cell_of_block hW _).trans n1,(cell_of_block hW _).trans n2⟩
     have q1:¬ 9223372036854775807 < 1 + (st t.name).size:=by rw[Z4];omega
     have q2:¬ 9223372036854775807 < 1 + (st t.name).size + (st (Mk.written t.ats)).size:=by rw[Z4,Z4];omega
     have q3:¬ 9223372036854775807 < 1 + (st t.name).size + (st (Mk.written t.ats)).size + 1:=by rw[Z4,Z4];omega
     have HWS:Hid (∀ W,Below w1.heap.size w1 W→Calls prog 93 #[.pointer (some ⟨w.heap.size,0,none⟩),.string (⟨#[60]⟩++st t.name++st (Mk.written t.ats)++⟨#[62]⟩)] W fun e w'=>∃ v,e=.returned v∧Lib.IsBuilder 96 5 w.heap.size w.heap.size (Lib.byteCells (Mk.bytes (l.take (k + 1)))) w'∧Below w.heap.size W w'∧w'.heap[N]? = W.heap[N]?):=fun W hW=>by
      have hb:=hW.size;rw[show (⟨#[60]⟩:ByteArray)=st [60] from rfl,show (⟨#[62]⟩:ByteArray)=st [62] from rfl,z7t,z7t,z7t];refine(z9x w.heap.size w.heap.size _ (st ([60]++t.name++Mk.written t.ats++[62])) W (z4c BU1.out (fun k hk=>hW.block k hk)) (by rw[Z4];simp only [List.length_append,List.length_cons,List.length_nil];omega) (by omega) N (by omega) (by omega) (fun v q e=>by have:=HROW.out v ((hW.cell (p:=⟨w.heap.size,1,none⟩) hbw1).symm.trans q) N e;omega)).mono ?_;rintro e w3 ⟨rfl,hb3,hl3,hn3⟩;exact⟨_,rfl,by rw[HBS.out,Lib.byteCells_append];exact .inr hb3,hl3,hn3⟩
     clear n0 n3 PB BU1 HVA HROW hle hbl
     go_region_held3 (fun w'=>w'.cell? ⟨N,1,none⟩=some (.string (st t.name))∧w'.cell? ⟨N,2,none⟩=some (.slice aot t.ats.length capt)) (first
      | exact HFR.out _ rfl
      | exact HFR.out _ (hB2.block N hNl)
      | exact HFR.out _ (hn3.trans (hB2.block N hNl))) (first | (go_at_call 115;refine(HWR.out _ (Below.refl _ _).drew).mono ?_;rintro e w2 ⟨rfl,hb2⟩;have hB2:Below w1.heap.size w1 w2:=((Below.refl _ _).drew).trans hb2) | (go_at_call 93;refine(HWS.out _ hB2).mono ?_;rintro e w3 ⟨v3,rfl,bu3,hl3,hn3⟩))
     all_goals
      have HE:=Ld (And.intro bu3 ((BL1.out.trans (hB2.mono hsz1)).trans hl3));clear HFR HWS HWR bu3 hl3 hn3 hB2 hb2 q1 q2 q3;go_wp2_with fail;go_roundw
      case rel=>exact⟨k + 1,by omega,by go_num,HE.out.1,HE.out.2⟩
      case measure=>simp[intOf];omega
    ·by_cases h3:t.kind=3
     ·have htb:Mk.z1s t=[60,47]++t.name++[62]:=by unfold Mk.z1s;rw[if_neg h1,if_neg h2,if_pos h3]
      rw[htb] at HBS hle hbl;simp only [List.length_append,List.length_cons,List.length_nil] at hle hbl;rw[h3] at n0 PB ⊢;clear h1 h2 h3 htb;have q1:¬ 9223372036854775807 < 2 + (st t.name).size:=by rw[Z4];omega
      have q2:¬ 9223372036854775807 < 2 + (st t.name).size + 1:=by rw[Z4];omega
      go_wp2_with fail;rw[show (⟨#[60,47]⟩:ByteArray)=st [60,47] from rfl,show (⟨#[62]⟩:ByteArray)=st [62] from rfl,z7t,z7t];refine(z1f w.heap.size w.heap.size _ (st ([60,47]++t.name++[62])) _ BU1.out (by rw[Z4];simp only [List.length_append,List.length_cons,List.length_nil];omega) hsz1).mono ?_;rintro e w3 ⟨rfl,hb3,hl3⟩;have BU3:Hid (Lib.IsBuilder 96 5 w.heap.size w.heap.size (Lib.byteCells (Mk.bytes (l.take (k + 1)))) w3):=by
       show Lib.IsBuilder _ _ _ _ _ _;rw[HBS.out,Lib.byteCells_append];exact .inr hb3
      have BL3:=Ld (BL1.out.trans hl3);clear hb3 hl3 BU1 BL1 n0 n1 n2 n3;go_wp2_with fail;go_roundw
      case rel=>exact⟨k + 1,by omega,by go_num,BU3.out,BL3.out⟩
      case measure=>simp[intOf];omega
     ·have htb:Mk.z1s t=[]:=by unfold Mk.z1s;rw[if_neg h1,if_neg h2,if_neg h3]
      rw[htb,List.append_nil] at HBS;have BU3:Hid (Lib.IsBuilder 96 5 w.heap.size w.heap.size (Lib.byteCells (Mk.bytes (l.take (k + 1)))) w1):=by
       show Lib.IsBuilder _ _ _ _ _ _;rw[HBS.out];exact BU1.out
      clear htb;go_wp2_with fail;go_roundw
      case rel=>exact⟨k + 1,by omega,by go_num,BU3.out,BL1.out⟩
      case measure=>simp[intOf];omega
  ·have hke:k=l.length:=by omega
   subst hke;rw[List.take_length] at BU;go_wp2_with fail;refine(Tryz.Builder_String_any w.heap.size w.heap.size _ _ BU.out hsz).mono ?_;rintro e wz ⟨rfl,hbz⟩;have lz:=BL.out.trans hbz;clear hbz BU BL;go_wp2_with fail;go_ret;exact⟨rfl,lz⟩
end Go.Proofs.YtjonkbdldebkiaaGreatDoor
