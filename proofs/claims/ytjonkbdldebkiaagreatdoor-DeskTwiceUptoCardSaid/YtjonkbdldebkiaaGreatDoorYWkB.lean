/- Contract of slices.BinarySearchFunc over entries in order, by the shelf's order. Condition: at most 1000 entries, times from 0 to the end of 2099. -/
import Derived.Test.YtjonkbdldebkiaaGreatDoorYWeC
import Derived.Test.YtjonkbdldebkiaaGreatDoorYWfJ
import Derived.Deep.RegionHeld3
set_option linter.unusedVariables false
set_option linter.unusedSimpArgs false
set_option maxHeartbeats 4000000
set_option maxRecDepth 100000
namespace Go.Proofs.YtjonkbdldebkiaaGreatDoor
open Go.Proofs.Tryz Go.RowKit
theorem j3e (l:List Fd.En) (x:Fd.En) (hs:l.Pairwise (fun a b=>Fd.ordE a b < 0)) (hr:∀ y ∈ l,0≤y.at_∧y.at_≤4102444799) (hx:0≤x.at_∧x.at_≤4102444799) (hl:l.length≤1000) (v:Value) (K:Nat→Prop) (w:World) (hv:z18 w K v l) (hK:∀ b,K b→b < w.heap.size) :
  Calls prog 143 #[v,enAg x,.func (.func 47) #[] #[]] w fun e w'=>Below w.heap.size w w'∧∃ (k:Nat) (b:Bool),e=.returned (.tuple #[.int .i64 k,.bool b])∧k≤l.length∧(∀ y ∈ l.take k,Fd.ordE y x < 0)∧(∀ y ∈ l.drop k,0≤Fd.ordE y x):=by
 have hmf:∀ (fn:Fn) (first cap:Array Value) (w:World),(Instr.makeFunc fn first cap).run prog w=.ok (.func fn first cap) w:=fun _ _ _ _=>rfl
 obtain⟨ao,cap,hv1,_,hcl⟩:=hv.get;subst hv1;have HC:=Ld hcl;have HK:=Ld hK;have HS:=Ld hs;have HOD:Hid (∀ y ∈ l,∀ W,Calls prog 47 #[enAg y,enAg x] W fun e w'=>e=.returned (.int .i64 (Fd.ordE y x))∧Below W.heap.size W w'):=fun y hy W=>j05 y x W (hr y hy).1 (hr y hy).2 hx.1 hx.2
 have AL:=Ld ((Below.refl w.heap.size w).alloc (Lr) (.cells #[.string (st x.id),.string (st x.ti),.string (st x.li),.int .i64 x.at_,.string (st x.ht)] 44));have XB:=Ld (Blk.new w 44 #[.string (st x.id),.string (st x.ti),.string (st x.li),.int .i64 x.at_,.string (st x.ht)]);clear hcl hs hr hx hv hK;unfold enAg;go_enter func143,ntmps143;go_upto_region 1 with fail;obtain⟨X,hX⟩:∃ X,X=w.heap.size:=⟨_,rfl⟩;rw[← hX] at XB;rw[← hX];have hXw:X≤w.heap.size:=by omega
 generalize w.alloc (.cells #[.string (st x.id),.string (st x.ti),.string (st x.li),.int .i64 x.at_,.string (st x.ht)] 44)=w1 at AL XB ⊢;clear hX;go_wp2_with fail
 go_loopw [9,10] (fun s9 s10 wr=>∃ lo hi:Nat,s9=.int .i64 lo∧s10=.int .i64 hi∧lo≤hi∧hi≤l.length∧Hid (∀ y ∈ l.take lo,Fd.ordE y x < 0)∧Hid (∀ y ∈ l.drop hi,0≤Fd.ordE y x)∧Hid (Below w.heap.size w wr)∧Hid (Blk wr X 44 #[.string (st x.id),.string (st x.ti),.string (st x.li),.int .i64 x.at_,.string (st x.ht)])) (fun s9 s10 _=>(intOf s10).toNat - (intOf s9).toNat)
 case atStart=>exact⟨0,l.length,rfl,rfl,Nat.zero_le _,Lr,(fun y hy=>by simp at hy),(fun y hy=>by rw[List.drop_length] at hy;cases hy),AL,XB⟩
 case round =>
  obtain⟨lo,hi,rfl,rfl,hlh,hin,HLO,HHI,BL,XW⟩:=hrel;have HNX:Hid (∀ W,Below w.heap.size w W→∀ k (hk:k < l.length),∃ g o,ao=some ⟨g,o,none⟩∧W.cell? ⟨g,o + k * 5,none⟩=some (.string (st l[k].id))∧W.cell? ⟨g,o + k * 5 + 1,none⟩=some (.string (st l[k].ti))∧W.cell? ⟨g,o + k * 5 + 2,none⟩=some (.string (st l[k].li))∧W.cell? ⟨g,o + k * 5 + 3,none⟩=some (.int .i64 l[k].at_)∧W.cell? ⟨g,o + k * 5 + 4,none⟩=some (.string (st l[k].ht))∧g < w.heap.size):=by
   intro W hW k hk;obtain⟨g,o,e,hg,c0,c1,c2,c3,c4⟩:=HC.out k hk;have hgl:=HK.out g hg;exact⟨g,o,e,(hW.cell (p:=⟨g,_,none⟩) hgl).trans c0,(hW.cell (p:=⟨g,_,none⟩) hgl).trans c1,(hW.cell (p:=⟨g,_,none⟩) hgl).trans c2,(hW.cell (p:=⟨g,_,none⟩) hgl).trans c3,(hW.cell (p:=⟨g,_,none⟩) hgl).trans c4,hgl⟩
  by_cases hlt:lo < hi
  ·obtain⟨m,hm⟩:∃ m,m=(lo + hi) / 2:=⟨_,rfl⟩
   have hmi:((lo:Int) + (hi:Int)) / 2=(m:Int):=by omega
   have hm1:lo≤m:=by omega
   have hm2:m < hi:=by omega
   have hmn:m < l.length:=by omega
   have HMM:=Ld hm;clear hm;obtain⟨g,o,hao,c0,c1,c2,c3,c4,hgl⟩:=HNX.out wr BL.out m hmn;subst hao;have HO:=Ld (HOD.out l[m] (List.getElem_mem hmn));have HY:Hid (∃ y,y=l[m]):=⟨_,rfl⟩;have HTM:Hid (l[m]=l[m]):=rfl;obtain⟨y,hy⟩:∃ y,l[m]=y:=⟨_,rfl⟩;rw[hy] at c0 c1 c2 c3 c4 HO;have HYM:=Ld hy;clear hy HY HTM;unfold enAg at HO;obtain⟨d,hd⟩:∃ d,Fd.ordE y x=d:=⟨_,rfl⟩;rw[hd] at HO;have HD:=Ld hd;clear hd;have hml:(m:Int) < l.length:=by omega
   have hm0:(0:Int)≤m:=by omega
   have HSW:Hid (∀ W,Below wr.heap.size wr.drew W→(W.cell? ⟨g,o + m * 5,none⟩=some (.string (st y.id))∧W.cell? ⟨g,o + m * 5 + 1,none⟩=some (.string (st y.ti))∧W.cell? ⟨g,o + m * 5 + 2,none⟩=some (.string (st y.li))∧W.cell? ⟨g,o + m * 5 + 3,none⟩=some (.int .i64 y.at_)∧W.cell? ⟨g,o + m * 5 + 4,none⟩=some (.string (st y.ht)))∧(W.cell? ⟨X,0,none⟩=some (.string (st x.id))∧W.cell? ⟨X,1,none⟩=some (.string (st x.ti))∧W.cell? ⟨X,2,none⟩=some (.string (st x.li))∧W.cell? ⟨X,3,none⟩=some (.int .i64 x.at_)∧W.cell? ⟨X,4,none⟩=some (.string (st x.ht)))):=by
    intro W hW;have hg2:g < wr.drew.heap.size:=Nat.lt_of_lt_of_le hgl BL.out.size;have hb:=Blk.below (Blk.drew XW.out) hW XW.out.lt;exact⟨⟨(hW.cell (p:=⟨g,_,none⟩) hg2).trans c0,(hW.cell (p:=⟨g,_,none⟩) hg2).trans c1,(hW.cell (p:=⟨g,_,none⟩) hg2).trans c2,(hW.cell (p:=⟨g,_,none⟩) hg2).trans c3,(hW.cell (p:=⟨g,_,none⟩) hg2).trans c4⟩,Blk.cell hb 0,Blk.cell hb 1,Blk.cell hb 2,Blk.cell hb 3,Blk.cell hb 4⟩
   clear c0 c1 c2 c3 c4 HNX;go_upto_region 5 with fail
   go_cut [31] (fun b wx=>b=.bool (decide (d < 0))∧Hid (Below wr.heap.size wr wx))
   case first =>
    as_aux_lemma =>
    go_region_held3 (fun W=>(W.cell? ⟨g,o + m * 5,none⟩=some (.string (st y.id))∧W.cell? ⟨g,o + m * 5 + 1,none⟩=some (.string (st y.ti))∧W.cell? ⟨g,o + m * 5 + 2,none⟩=some (.string (st y.li))∧W.cell? ⟨g,o + m * 5 + 3,none⟩=some (.int .i64 y.at_)∧W.cell? ⟨g,o + m * 5 + 4,none⟩=some (.string (st y.ht)))∧(W.cell? ⟨X,0,none⟩=some (.string (st x.id))∧W.cell? ⟨X,1,none⟩=some (.string (st x.ti))∧W.cell? ⟨X,2,none⟩=some (.string (st x.li))∧W.cell? ⟨X,3,none⟩=some (.int .i64 x.at_)∧W.cell? ⟨X,4,none⟩=some (.string (st x.ht)))) (first
     | exact HSW.out _ (Below.refl _ _)
     | exact HSW.out _ hb6) (first | (go_at_call 47;refine(HO.out _).mono ?_;rintro e w6 ⟨rfl,hb6⟩))
    all_goals
     go_wp2_with fail;go_meet
     case rel=>exact⟨rfl,(Below.refl wr.heap.size wr).drew.trans hb6⟩
   case rest =>
   as_aux_lemma =>
   obtain⟨rfl,HWX⟩:=hcut;have B2:=Ld (BL.out.trans (HWX.out.mono BL.out.size));have X2:=Ld (Blk.below XW.out HWX.out XW.out.lt)
   by_cases hd0:d < 0
   ·have H1:Hid (∀ y ∈ l.take (m + 1),Fd.ordE y x < 0):=by
     intro z hz;obtain⟨t,ht,rfl⟩:=List.mem_iff_getElem.1 hz;rw[List.length_take] at ht;rw[List.getElem_take];exact Fd.q9u l x HS.out t m (by omega) hmn (by rw[HYM.out,HD.out];exact hd0)
    clear HLO BL XW HSW HO;go_wp2_with fail;go_roundw
    case rel=>exact⟨m + 1,hi,by go_num,rfl,by omega,hin,H1,HHI,B2,X2⟩
    case measure=>simp[intOf];omega
   ·have H1:Hid (∀ y ∈ l.drop m,0≤Fd.ordE y x):=by
     intro z hz;obtain⟨t,ht,rfl⟩:=List.mem_iff_getElem.1 hz;rw[List.length_drop] at ht;rw[List.getElem_drop];refine Int.not_lt.1 (fun q=>?_);have:=Fd.q9u l x HS.out m (m + t) (by omega) (by omega) q;rw[HYM.out,HD.out] at this;exact hd0 this
    clear HHI BL XW HSW HO;go_wp2_with fail;go_roundw
    case rel=>exact⟨lo,m,rfl,rfl,by omega,by omega,HLO,H1,B2,X2⟩
    case measure=>simp[intOf];omega
  ·obtain rfl:hi=lo:=by omega
   by_cases hn:hi < l.length
   ·obtain⟨g,o,hao,c0,c1,c2,c3,c4,hgl⟩:=HNX.out wr BL.out hi hn
    subst hao;have HO:=Ld (HOD.out l[hi] (List.getElem_mem hn));obtain⟨y,hy⟩:∃ y,l[hi]=y:=⟨_,rfl⟩;rw[hy] at c0 c1 c2 c3 c4 HO;clear hy;unfold enAg at HO;generalize Fd.ordE y x=d at HO;have hml:(hi:Int) < l.length:=by omega
    have HSW:Hid (∀ W,Below wr.heap.size wr.drew W→(W.cell? ⟨g,o + hi * 5,none⟩=some (.string (st y.id))∧W.cell? ⟨g,o + hi * 5 + 1,none⟩=some (.string (st y.ti))∧W.cell? ⟨g,o + hi * 5 + 2,none⟩=some (.string (st y.li))∧W.cell? ⟨g,o + hi * 5 + 3,none⟩=some (.int .i64 y.at_)∧W.cell? ⟨g,o + hi * 5 + 4,none⟩=some (.string (st y.ht)))∧(W.cell? ⟨X,0,none⟩=some (.string (st x.id))∧W.cell? ⟨X,1,none⟩=some (.string (st x.ti))∧W.cell? ⟨X,2,none⟩=some (.string (st x.li))∧W.cell? ⟨X,3,none⟩=some (.int .i64 x.at_)∧W.cell? ⟨X,4,none⟩=some (.string (st x.ht)))):=by
     intro W hW;have hg2:g < wr.drew.heap.size:=Nat.lt_of_lt_of_le hgl BL.out.size;have hb:=Blk.below (Blk.drew XW.out) hW XW.out.lt;exact⟨⟨(hW.cell (p:=⟨g,_,none⟩) hg2).trans c0,(hW.cell (p:=⟨g,_,none⟩) hg2).trans c1,(hW.cell (p:=⟨g,_,none⟩) hg2).trans c2,(hW.cell (p:=⟨g,_,none⟩) hg2).trans c3,(hW.cell (p:=⟨g,_,none⟩) hg2).trans c4⟩,Blk.cell hb 0,Blk.cell hb 1,Blk.cell hb 2,Blk.cell hb 3,Blk.cell hb 4⟩
    clear c0 c1 c2 c3 c4 HNX;go_upto_region 8 with fail
    go_region_held3 (fun W=>(W.cell? ⟨g,o + hi * 5,none⟩=some (.string (st y.id))∧W.cell? ⟨g,o + hi * 5 + 1,none⟩=some (.string (st y.ti))∧W.cell? ⟨g,o + hi * 5 + 2,none⟩=some (.string (st y.li))∧W.cell? ⟨g,o + hi * 5 + 3,none⟩=some (.int .i64 y.at_)∧W.cell? ⟨g,o + hi * 5 + 4,none⟩=some (.string (st y.ht)))∧(W.cell? ⟨X,0,none⟩=some (.string (st x.id))∧W.cell? ⟨X,1,none⟩=some (.string (st x.ti))∧W.cell? ⟨X,2,none⟩=some (.string (st x.li))∧W.cell? ⟨X,3,none⟩=some (.int .i64 x.at_)∧W.cell? ⟨X,4,none⟩=some (.string (st x.ht)))) (first
     | exact HSW.out _ (Below.refl _ _)
     | exact HSW.out _ hb6) (first | (go_at_call 47;refine(HO.out _).mono ?_;rintro e w6 ⟨rfl,hb6⟩))
    all_goals
     have B6:=Ld (BL.out.drew.trans (hb6.mono BL.out.size));go_wp2_with fail;go_ret2;exact⟨B6.out,hi,_,rfl,hin,HLO.out,HHI.out⟩
   ·go_upto_region 8 with fail
    go_quiet (fail)
    go_wp2_with fail;go_ret2;exact⟨below_drewN BL.out _,hi,false,rfl,hin,HLO.out,HHI.out⟩
end Go.Proofs.YtjonkbdldebkiaaGreatDoor
