/- Contract of the program's put of what is clean: nodes behind others. Condition: at most 1099511627776 nodes, attributes and letters together. -/
import Derived.Test.YtjonkbdldebkiaaGreatDoorVWsA
import Derived.Test.YtjonkbdldebkiaaGreatDoorVMkTok5
import Derived.RegionTactic
import Derived.ChangeAlike
import Derived.Deep.RegionHeld3
set_option linter.unusedVariables false
set_option linter.unusedSimpArgs false
set_option maxHeartbeats 8000000
set_option maxRecDepth 100000
namespace Go.Proofs.YtjonkbdldebkiaaGreatDoor
open Go.Proofs.Tryz Go.RowKit
theorem Tryz.infoNode:(prog.info? 53).map (fun i=>(i.zero,i.size,i.bytes))=some (some (.agg #[.string ⟨#[]⟩,.slice none 0 0,.string ⟨#[]⟩,.slice none 0 0]),4,80):=by kernel_rfl
section
variable {w w1 w2 : World} {B : Nat} {K : Nat→Prop} {v v' : Value} {f : Mk.Fo} {xs : List Value}
theorem OwnF.merged (h:OwnF w B K v f xs) {n:List UInt8} (a:List Mk.At) (t:List UInt8) (k:Mk.Fo) (hm:f.merges n=true) {g:Nat} (hg:v.ownBlock=some g):OwnF (w.setCell ⟨g,4 * (f.len - 1) + 2,none⟩ (.string (st (f.lastT++t)))) B K v (Mk.Fo.snoc n a t k f) (xs.set (4 * (f.len - 1) + 2) (.string (st (f.lastT++t)))):=by
 refine⟨?_,?_,h.ne,?_⟩
 ·rw[Mk.Fo.z7s f n a t k hm]
  exact z4n h.own hg _ _
 ·refine(z07.merge f xs h.cells hm).frame fun b hb=>⟨hb,Below.heap_setCell w ⟨g,_,none⟩ _ b ?_⟩
  rintro rfl;exact h.ne _ hg hb
 ·intro b hb
  have:=h.le b hb
  simpa [World.setCell] using this
theorem OwnF.pushed (h:OwnF w B K v f xs) {n:List UInt8} {a:List Mk.At} {t:List UInt8} {k:Mk.Fo} {va:Value} {ao:Option Addr} {cap:Nat} {zs:List Value} (h2:AtsV w K va a) (h3:z19 w K ao zs) (h4:k.len≤maxLen) (h5:z07 w K k zs) (hm:f.merges n=false) (h1:Below w.heap.size w w1)
  (hown:w2.ownsRow B 53 4 v' (f.len + 1) (xs++[.string (st n),va,.string (st t),.slice ao k.len cap])) (hgr:w1.grownBy w2 v.ownBlock) (hf:v'.ownBlock=v.ownBlock∨v'.ownBlock=some w1.heap.size) :
  OwnF w2 B K v' (Mk.Fo.snoc n a t k f) (xs++[.string (st n),va,.string (st t),.slice ao k.len cap]):=by
 have keep:∀ b,K b→K b∧w2.heap[b]? = w.heap[b]?:=fun b hb=>⟨hb,(hgr.block b (Nat.lt_of_lt_of_le (h.le b hb) h1.size) (fun e=>h.ne b e.symm hb)).trans (h1.block b (h.le b hb))⟩
 refine⟨by rw[Mk.Fo.z5t f n a t k hm];exact hown,(z07.push h2 h3 h4 h5 f xs h.cells hm).frame keep,?_,fun b hb=>Nat.lt_of_lt_of_le (h.le b hb) (Nat.le_trans h1.size hgr.size)⟩;intro g hg
 rcases hf with e | e
 ·rw[e] at hg;exact h.ne g hg
 ·rw[e] at hg
  injection hg with hg;intro hb;have:=h.le g hb;have:=h1.size;omega
theorem OwnF.last (h:OwnF w B K v f xs) (hn:f ≠ .nil):∃ g cap,v=.slice (some ⟨g,0,none⟩) f.len cap∧w.cell? ⟨g,(f.len - 1) * 4,none⟩=some (.string (st f.z6a))∧w.cell? ⟨g,(f.len - 1) * 4 + 2,none⟩=some (.string (st f.lastT))∧(∀ i,w.frozen? ⟨g,i,none⟩=false):=by
 obtain⟨h1,h2⟩:=z07.last_ f xs h.cells hn;have hl:=h.cells.length
 rcases h.own.2 with ⟨_,h0⟩ | ⟨g,cap,cur,hv,hb,hh,hnc,hcm,hcs,ht⟩
 ·exfalso
  cases f with
  | nil=>exact hn rfl
  | node _ _ _ _ _=>simp[Mk.Fo.len] at h0
 ·have hc:=h.own.cells (g:=g) (by rw[hv];rfl)
  have e0:∀ j,(⟨g,0,none⟩:Addr).add j=⟨g,j,none⟩:=by intro j;unfold Addr.add;split <;> simp_all
  have c1:=hc _ _ h1;have c2:=hc _ _ h2;rw[e0] at c1 c2;rw[Nat.mul_comm (f.len - 1) 4];exact⟨g,cap,hv,c1,c2,fun i=>by simp[World.frozen?,hh]⟩
end
def q17 (w:World) (v v':Value):Prop:=v'.ownBlock=v.ownBlock∨∃ b,v'.ownBlock=some b∧w.heap.size≤b
theorem cl_put (f g:Mk.Fo) (v vm:Value) (B:Nat) (K:Nat→Prop) (xs:List Value) (w:World) (hF:OwnF w B K v f xs) (hg:FoV w K vm g) (hB:B≤w.heap.size) (hl:f.bulk + g.bulk≤1099511627776) :
  Calls prog 209 #[v,vm] w fun e w'=>∃ v' xs',e=.returned v'∧OwnF w' B K v' (f.joins g) xs'∧Ap (fun b=>v.ownBlock=some b) w w'∧q17 w v v':=by
 obtain⟨gm,o,cap,hv1,hlen,hat⟩:=hg.at_
 have HAT:=Ld hat
 clear hat
 have hgl:=Mk.Fo.z1r g;have hst:∀ l:List UInt8,(st l).toList=l:=fun l=>Lib.toList_data _
 have HF:=Ld hF;have hvs:=Z9 hF.own
 rcases hv1 with ⟨hv1,hKg⟩ | ⟨ao,hv1,hnil⟩
 ·subst hv1
  clear hvs;have hKw:=Ld hF.le;clear hF;go_enter func209,ntmps209;go_wp2_with fail
  go_loopw [0,10] (fun u i wr=>∃ (k:Nat) (f':Mk.Fo) (xs':List Value),k≤g.len∧i=.int .i64 k∧f'.bulk + (g.drop k).bulk≤1099511627776∧Hid (f.joins g=f'.joins (g.drop k))∧Hid (OwnF wr B K u f' xs')∧Hid (Ap (fun b=>v.ownBlock=some b) w wr)∧Hid (q17 w v u)) (fun _ i _=>g.len - (intOf i).toNat)
  case atStart=>exact⟨0,f,xs,Nat.zero_le _,rfl,by rw[Mk.Fo.drop_zero];exact hl,by show _=_;rw[Mk.Fo.drop_zero],HF,Ap.refl _ _,.inl rfl⟩
  case round =>
   obtain⟨k,f',xs',hk,rfl,hbk,HJ,OF,AP,FR⟩:=hrel;have hsz:=AP.out.size
   by_cases hlt:k < g.len
   ·obtain⟨n,a,t,kk,r,hd,hd1⟩:=Mk.Fo.z6j g k hlt
    obtain⟨va,vk,c0,c1,c2,c3,hva,hvk⟩:=HAT.out k n a t kk r hd;have hgm:wr.heap[gm]? = w.heap[gm]?:=AP.out.block gm (hKw.out gm hKg) (fun e=>HF.out.ne gm e hKg);rw[← cell_of_block hgm] at c0 c1 c2 c3;obtain⟨aoa,capa,hva1,hva2⟩:=id hva;obtain⟨aok,capk,xsk,hvk1,hvk2,hvk3,hvk4⟩:=id hvk;subst hva1;subst hvk1;have keepK:∀ b,K b→K b∧wr.heap[b]? = w.heap[b]?:=fun b hb=>⟨hb,AP.out.block b (hKw.out b hb) (fun e=>HF.out.ne b e hb)⟩
    have HVA:=Ld (hva.frame keepK);have HVK:=Ld (hvk2.frame keepK);have HVF:=Ld (hvk3.frame keepK);have hdb:(g.drop k).bulk=1 + n.length + t.length + Mk.Fo.atB a + kk.bulk + r.bulk:=by rw[hd];rfl
    have HJ2:Hid (f.joins g=(Mk.Fo.snoc n a t kk f').joins (g.drop (k + 1))):=by show _=_;rw[HJ.out,hd,hd1];rfl
    have hbk2:(Mk.Fo.snoc n a t kk f').bulk + (g.drop (k + 1)).bulk≤1099511627776:=by
     have:=Mk.Fo.z4y f' n a t kk;rw[hd1];omega
    have hfl:=Mk.Fo.z1r f';have htl:=Mk.Fo.z7a f';have hal:=(Below.refl wr.heap.size wr).alloc (Lr) (.cells #[.string (st n),.slice aoa a.length capa,.string (st t),.slice aok kk.len capk] 53);have PB:=Ld (Blk.new wr 53 #[.string (st n),.slice aoa a.length capa,.string (st t),.slice aok kk.len capk]);have OF1:=Ld (OF.out.frame hal.size (fun b hb _=>hal.block b hb));have AP1:=Ld (AP.out.trans (Ap.of_below hal));have HAL:=Ld hal;obtain⟨ao0,cap0,hu0⟩:=Z9 OF.out.own;have hbn:n=[]∨n.isEmpty=false:=by
     cases n with
     | nil=>exact .inl rfl
     | cons _ _=>exact .inr rfl
    clear hal HAT hva hvk hvk2 hvk3 keepK HJ AP hd hd1 hgm;subst hu0;go_upto_region 5 with fail;generalize hw1:wr.alloc (.cells #[.string (st n),.slice aoa a.length capa,.string (st t),.slice aok kk.len capk] 53)=w1 at PB OF1 AP1 HAL ⊢;clear hw1 OF;have p0:w1.cell? ⟨wr.heap.size,0,none⟩=some (.string (st n)):=Blk.cell PB.out 0;have HBN:=Ld hbn;clear hbn c0 c1 c2 c3
    go_cut [31] (fun b wx=>b=.bool (f'.merges n)∧w1=wx)
    case first =>
     rcases HBN.out with hn | hn
     ·by_cases hf0:f'=.nil
      ·have HM:Hid (f'.merges n=false):=by show _=_;rw[hf0,Mk.Fo.z4u]
       have hl0:¬ 0 < f'.len:=by rw[hf0];simp[Mk.Fo.len]
       have HN:=Ld hn;have he:n.isEmpty=true:=by rw[hn];rfl
       clear hn hf0;go_wp2_with fail;go_meet
       case rel=>exact⟨by rw[HM.out],rfl⟩
      ·obtain⟨g0,capz,hz,d1,d2,df⟩:=OF1.out.last hf0
       injection hz with z1 z2 z3;subst z1;subst z3;have hl0:0 < f'.len:=z3i f' hf0;obtain⟨j,hj⟩:∃ j,j=f'.len - 1:=⟨_,rfl⟩;rw[← hj] at d1;have hj1:(f'.len:Int) - 1=j:=by omega
       have hj2:(j:Int) < f'.len:=by omega
       have hj3:(0:Int)≤j:=by omega
       have he:n.isEmpty=true:=by rw[hn];rfl
       have hbl:f'.z6a=[]∨f'.z6a.isEmpty=false:=by
        cases f'.z6a with
        | nil=>exact .inl rfl
        | cons _ _=>exact .inr rfl
       have HN:=Ld hn;have HF0:=Ld hf0;clear hj d2 df hn hf0
       rcases hbl with h1 | h1
       ·have HM:Hid (f'.merges n=true):=(Mk.Fo.V6 _ _).2 ⟨HN.out,HF0.out,h1⟩
        have he1:f'.z6a.isEmpty=true:=by rw[h1];rfl
        clear h1;go_wp2_with fail;go_meet
        case rel=>exact⟨by rw[HM.out],rfl⟩
       ·have HM:Hid (f'.merges n=false):=by
         show _=_;rw[Bool.eq_false_iff];intro q;rw[((Mk.Fo.V6 _ _).1 q).2.2] at h1;cases h1
        go_wp2_with fail;go_meet
        case rel=>exact⟨by rw[HM.out],rfl⟩
     ·have HM:Hid (f'.merges n=false):=by
       show _=_;rw[Bool.eq_false_iff];intro q;rw[((Mk.Fo.V6 _ _).1 q).1] at hn;cases hn
      go_wp2_with fail;go_meet
      case rel=>exact⟨by rw[HM.out],rfl⟩
    case rest =>
     obtain⟨rfl,hw⟩:=hcut;subst hw;obtain⟨mb,hmb⟩:∃ mb,f'.merges n=mb:=⟨_,rfl⟩;rw[hmb];have HMB:=Ld hmb;clear hmb
     cases mb with
     | true =>
      have hq:=(Mk.Fo.V6 _ _).1 HMB.out;obtain⟨g0,capz,hz,d1,d2,df⟩:=OF1.out.last hq.2.1;injection hz with z1 z2 z3;subst z1;subst z3;have hl0:0 < f'.len:=z3i f' hq.2.1;have OFM:=Ld (OF1.out.merged a t kk HMB.out (g:=g0) rfl);obtain⟨j,hj⟩:∃ j,j=f'.len - 1:=⟨_,rfl⟩;rw[← hj] at d1 d2 OFM;have hj1:(f'.len:Int) - 1=j:=by omega
      have hj2:(j:Int) < f'.len:=by omega
      have hj3:(0:Int)≤j:=by omega
      have p2:w1.cell? ⟨wr.heap.size,2,none⟩=some (.string (st t)):=Blk.cell PB.out 2;have df2:=df (j * 4 + 2);have q1:¬ 9223372036854775807 < (st f'.lastT).size + (st t).size:=by rw[Z4,Z4];omega
      have hown:∀ b,(Value.slice (some ⟨g0,0,none⟩) f'.len cap0).ownBlock=some b→b=g0:=fun b e=>by injection e with e;exact e.symm
      have HOB:=Ld hown;clear hj hq df hown;go_wp2_with fail
      go_region
      have AP2:Hid (Ap (fun b=>v.ownBlock=some b) w (w1.setCell ⟨g0,j * 4 + 2,none⟩ (.string (st (f'.lastT++t))))):=by
       rcases FR.out with e | ⟨b,e,hb⟩
       ·exact AP1.out.setCell (p:=⟨g0,j * 4 + 2,none⟩) (by rw[← e];rfl) _
       ·have e:some g0=some b:=e
        injection e with e;exact AP1.out.setNew (p:=⟨g0,j * 4 + 2,none⟩) (by rw[e];exact hb) _
      have OFM2:Hid (OwnF (w1.setCell ⟨g0,j * 4 + 2,none⟩ (.string (st (f'.lastT++t)))) B K (.slice (some ⟨g0,0,none⟩) f'.len cap0) (Mk.Fo.snoc n a t kk f') (xs'.set (4 * j + 2) (.string (st (f'.lastT++t))))):=by
       have:=OFM.out;rw[Nat.mul_comm 4 j] at this;rw[Nat.mul_comm 4 j];exact this
      all_goals
       rw[show st f'.lastT++st t=st (f'.lastT++t) from z3m (st f'.lastT) (st t)];have OFM3:=Ld (OFM2.out.frame (w':=(w1.setCell ⟨g0,j * 4 + 2,none⟩ (.string (st (f'.lastT++t)))).drew) (Lr) (fun _ _ _=>rfl));have AP3:=Ld (AP2.out.drew);clear OFM OFM2 AP2 OF1 AP1 d1 d2 p2 df2;go_wp2_with fail;go_roundw
       case rel=>exact⟨k + 1,_,_,by omega,by go_num,hbk2,HJ2,OFM3,AP3,FR⟩
       case measure=>simp[intOf];omega
     | false =>
      have p1:w1.cell? ⟨wr.heap.size,1,none⟩=some (.slice aoa a.length capa):=Blk.cell PB.out 1;have p2:w1.cell? ⟨wr.heap.size,2,none⟩=some (.string (st t)):=Blk.cell PB.out 2;have p3:w1.cell? ⟨wr.heap.size,3,none⟩=some (.slice aok kk.len capk):=Blk.cell PB.out 3;obtain⟨i0,hi,hz0,hz1,hz2⟩:=info_parts Tryz.infoNode;have ow10:=z0f OF1.out.own ((Ap.refl (fun _=>False) w1).alloc (.cells #[.string (st n),.slice aoa a.length capa,.string (st t),.slice aok kk.len capk] 53)) (fun _ _ q=>q);have hal2:=(Below.refl w1.heap.size w1).alloc (Lr) (.cells #[.string (st n),.slice aoa a.length capa,.string (st t),.slice aok kk.len capk] 53);have hBs:B≤w1.heap.size:=Nat.le_trans hB AP1.out.size;have hlf:f'.len≤1099511627776:=by omega
      go_wp2_with (at_builtin;refine J3 rfl _ _ 51 rfl B 53 i0 (.agg #[.string ⟨#[]⟩,.slice none 0 0,.string ⟨#[]⟩,.slice none 0 0]) 4 80 underlying51 hi hz0 hz1 hz2 rfl (by decide) _ _ _ rfl ow10 ⟨w1.heap.size,0,none⟩ 1 1 [.string (st n),.slice aoa a.length capa,.string (st t),.slice aok kk.len capk] rfl rfl (z0h _ _ _) (by intro u hu;simp at hu;rcases hu with rfl | rfl | rfl | rfl <;> rfl) (by decide) (by unfold maxLen;omega) (by omega) (by simp;omega) ?_);intro v' w2 hown' hgrow hfresh;have hfr2:v'.ownBlock=(Value.slice ao0 f'.len cap0).ownBlock∨v'.ownBlock=some (w1.alloc (.cells #[.string (st n),.slice aoa a.length capa,.string (st t),.slice aok kk.len capk] 53)).heap.size:=hfresh.imp id (fun e=>by rw[e];simp);have kp:∀ b,K b→K b∧w1.heap[b]? = wr.heap[b]?:=fun b hb=>⟨hb,HAL.out.block b (Nat.lt_of_lt_of_le (hKw.out b hb) hsz)⟩
      have OFP:=Ld (OF1.out.pushed (HVA.out.frame kp) (HVK.out.frame kp) hvk4 (HVF.out.frame kp) HMB.out hal2 hown' hgrow hfr2);have APP:Hid (Ap (fun b=>v.ownBlock=some b) w w2):=by
       refine(AP1.out.alloc (.cells #[.string (st n),.slice aoa a.length capa,.string (st t),.slice aok kk.len capk] 53)).grown hgrow (fun b hb e=>?_)
       rcases FR.out with q | ⟨b',q,hb'⟩
       ·rw[← q];exact e
       ·rw[q] at e;injection e with e;omega
      have FRP:Hid (q17 w v v'):=by
       rcases hfr2 with e | e
       ·rcases FR.out with q | ⟨b',q,hb'⟩
        ·exact .inl (e.trans q)
        ·exact .inr ⟨b',e.trans q,hb'⟩
       ·exact .inr ⟨_,e,by have:=AP1.out.size;simp;omega⟩
      clear hown' hgrow hfresh hfr2 kp ow10 hal2 OF1 AP1 p0 p1 p2 p3 HVA HVK HVF;go_wp2_with fail;go_roundw
      case rel=>exact⟨k + 1,_,_,by omega,by go_num,hbk2,HJ2,OFP,APP,FRP⟩
      case measure=>simp[intOf];omega
   ·have hke:k=g.len:=by omega
    rw[hke,Mk.Fo.z4e] at HJ;have HJ2:Hid (f.joins g=f'):=HJ;clear HJ HAT;go_wp2_with fail;go_ret;exact⟨_,_,rfl,by rw[HJ2.out];exact OF.out,AP.out,FR.out⟩
 ·subst hnil
  subst hv1;obtain⟨ao0,cap0,hu0⟩:=hvs;subst hu0;clear HAT;go_enter func209,ntmps209;go_wp2_with fail
  go_loopw [0,10] (fun u i wr=>u=.slice ao0 f.len cap0∧i=.int .i64 0∧wr=w) (fun _ _ _=>0)
  case atStart=>exact⟨rfl,rfl,rfl⟩
  case round =>
   obtain⟨rfl,rfl,rfl⟩:=hrel;go_wp2_with fail;go_ret;exact⟨_,_,rfl,HF.out,Ap.refl _ _,.inl rfl⟩
end Go.Proofs.YtjonkbdldebkiaaGreatDoor
namespace Mk
namespace Bld
def fos (b:Bld):List Fo := b.root :: b.open_.map Op.kids
def ops (b:Bld):List (Bs × List At) := b.open_.map fun o => (o.name, o.ats)
theorem q81 (b:Bld):(fos b).length=(ops b).length + 1 := by simp[fos, ops]
theorem q6p (b:Bld):b.names=(ops b).map Prod.fst := by simp[names, ops]
theorem z8p (l:List Op):l=[]∨∃ L o, l=L ++ [o] := by
  rcases List.eq_nil_or_concat l with h | ⟨L, o, h⟩
  · exact .inl h
  · exact .inr ⟨L, o, by simpa using h⟩
theorem j2q (r:Fo) (L:List Op) (o:Op) (n:Bs) (a:List At) (t:Bs) (k:Fo):z7y ⟨r, L ++ [o]⟩ n a t k=⟨r, L ++ [{ o with kids := Fo.snoc n a t k o.kids }]⟩ := by
  simp[z7y]
theorem q51 (b:Bld):∃ L f, fos b=L ++ [f] ∧ ∀ n a t k, fos (z7y b n a t k)=L ++ [Fo.snoc n a t k f] ∧ ops (z7y b n a t k)=ops b := by
  obtain⟨r, l⟩ := b
  rcases z8p l with h | ⟨L, o, h⟩
  · subst h
    exact⟨[], r, rfl, fun n a t k => ⟨rfl, rfl⟩⟩
  · subst h
    refine⟨r :: L.map Op.kids, o.kids, by simp[fos], fun n a t k => ?_⟩
    rw[j2q]
    exact⟨by simp[fos], by simp[ops]⟩
theorem pop_snoc (r:Fo) (L:List Op) (o:Op):pop ⟨r, L ++ [o]⟩=z7y ⟨r, L⟩ o.name o.ats [] o.kids := by
  simp[pop]
theorem q8k (b:Bld) (O:List (Bs × List At)) (n:Bs) (a:List At) (h:ops b=O ++ [(n, a)]):∃ L f' f, fos b=L ++ [f', f] ∧ fos (pop b)=L ++ [Fo.snoc n a [] f f'] ∧ ops (pop b)=O := by
  obtain⟨r, l⟩ := b
  rcases z8p l with hl | ⟨L, o, hl⟩
  · subst hl; simp[ops] at h
  · subst hl
    have h1:L.map (fun o => (o.name, o.ats)) ++ [(o.name, o.ats)]=O ++ [(n, a)] := by simpa [ops] using h
    obtain⟨h2, h3⟩ := List.append_inj' h1 rfl
    injection h3 with h3 _
    injection h3 with h3 h4
    rw[pop_snoc, h3, h4]
    obtain⟨L', f', e1, e2⟩ := q51 ⟨r, L⟩
    obtain⟨e3, e4⟩ := e2 n a [] o.kids
    refine⟨L', f', o.kids, ?_, e3, by rw[e4]; exact h2⟩
    have:fos ⟨r, L ++ [o]⟩=fos ⟨r, L⟩ ++ [o.kids] := by simp[fos]
    rw[this, e1]; simp
theorem q4y (b:Bld) (n:Bs) (a:List At):fos { b with open_ := b.open_ ++ [⟨n, a, .nil⟩] } = fos b ++ [.nil] ∧ ops { b with open_ := b.open_ ++ [⟨n, a, .nil⟩] } = ops b ++ [(n, a)] := by
  simp[fos, ops]
theorem z5q (b:Bld):(ops b).length=b.open_.length := by simp[ops]
def opB (l:List (Bs × List At)):Nat := (l.map fun o => 1 + o.1.length + Fo.atB o.2).sum
def foB (l:List Fo):Nat := (l.map Fo.bulk).sum
theorem q8i (l m:List (Bs × List At)):opB (l ++ m)=opB l + opB m := by simp[opB]
theorem z5n (l m:List Fo):foB (l ++ m)=foB l + foB m := by simp[foB]
theorem z4l (f:Fo):foB [f]=Fo.bulk f := by simp[foB]
theorem q8j (n:Bs) (a:List At):opB [(n, a)]=1 + n.length + Fo.atB a := by simp[opB]
def bulk (b:Bld):Nat := foB (fos b) + opB (ops b)
theorem q9x (b:Bld) (n:Bs) (a:List At) (t:Bs) (k:Fo):bulk (z7y b n a t k) ≤ bulk b + (1 + n.length + t.length + Fo.atB a + Fo.bulk k) := by
  obtain⟨L, f, h1, h2⟩ := q51 b
  obtain⟨h3, h4⟩ := h2 n a t k
  have := Fo.z4y f n a t k
  unfold bulk
  rw[h1, h3, h4, z5n, z5n, z4l, z4l]
  omega
theorem q9v (b:Bld):bulk (pop b) ≤ bulk b := by
  obtain⟨r, l⟩ := b
  rcases z8p l with hl | ⟨L, o, hl⟩
  · subst hl; exact Lr
  · subst hl
    obtain⟨L', f', f, h1, h2, h3⟩ := q8k ⟨r, L ++ [o]⟩ (ops ⟨r, L⟩) o.name o.ats (by simp[ops])
    have h4:ops ⟨r, L ++ [o]⟩=ops ⟨r, L⟩ ++ [(o.name, o.ats)] := by simp[ops]
    have := Fo.z4y f' o.name o.ats [] f
    unfold bulk
    rw[h1, h2, h3, h4, show L' ++ [f', f]=L' ++ [f'] ++ [f] by simp, z5n, z5n, z5n, z4l, z4l, z4l, q8i, q8j]
    simp only [List.length_nil] at this
    omega
theorem q0s:∀ (n:Nat) (b:Bld), bulk (z4q n b) ≤ bulk b
  | 0, _ => Lr
  | n + 1, b => Nat.le_trans (q0s n _) (q9v b)
theorem q4w (b:Bld):(ops (pop b)).length=(ops b).length - 1 := by
  obtain⟨r, l⟩ := b
  rcases z8p l with hl | ⟨L, o, hl⟩
  · subst hl; rfl
  · subst hl
    obtain⟨_, _, _, _, _, h3⟩ := q8k ⟨r, L ++ [o]⟩ (ops ⟨r, L⟩) o.name o.ats (by simp[ops])
    rw[h3]; simp[ops]
theorem j1l (n:Nat) (b:Bld):z4q (n + 1) b=z4q n b.pop := rfl
end Bld
end Mk
namespace Go.Proofs.YtjonkbdldebkiaaGreatDoor
open Go.RowKit
def z2e (w:World) (K:Nat → Prop):List (Mk.Bs × List Mk.At) → List Value → Prop
  | [], xs => xs=[]
  | o :: r, xs => ∃ va ys, xs=[.string (st o.1), va, .string (st []), .slice none 0 0] ++ ys ∧ AtsV w K va o.2 ∧ z2e w K r ys
theorem z2e.frame {w w':World} {K K':Nat → Prop} (hk:∀ b, K b → K' b ∧ w'.heap[b]? = w.heap[b]?):∀ {l:List (Mk.Bs × List Mk.At)} {xs:List Value}, z2e w K l xs → z2e w' K' l xs
  | [], _, h => h
  | _ :: _, _, ⟨va, ys, h1, h2, h3⟩ => ⟨va, ys, h1, h2.frame hk, z2e.frame hk h3⟩
theorem z2e.length {w:World} {K:Nat → Prop}:∀ {l:List (Mk.Bs × List Mk.At)} {xs:List Value}, z2e w K l xs → xs.length=l.length * 4
  | [], _, h => by rw[h]; rfl
  | t :: r, _, ⟨va, ys, h1, _, h3⟩ => by rw[h1, List.length_append, h3.length, List.length_cons]; simp; omega
theorem z2e.snoc {w:World} {K:Nat → Prop} {n:List UInt8} {a:List Mk.At} {va:Value} (ha:AtsV w K va a):∀ {l:List (Mk.Bs × List Mk.At)} {xs:List Value}, z2e w K l xs → z2e w K (l ++ [(n, a)]) (xs ++ [.string (st n), va, .string (st []), .slice none 0 0])
  | [], _, h => by rw[h]; exact⟨va, [], rfl, ha, rfl⟩
  | _ :: _, _, ⟨vb, ys, h1, h2, h3⟩ => ⟨vb, _, by rw[h1, List.append_assoc], h2, h3.snoc ha⟩
theorem z2e.last {w:World} {K:Nat → Prop} {n:List UInt8} {a:List Mk.At}:∀ {l:List (Mk.Bs × List Mk.At)} {xs:List Value}, z2e w K (l ++ [(n, a)]) xs → ∃ va ys, xs=ys ++ [.string (st n), va, .string (st []), .slice none 0 0] ∧ AtsV w K va a ∧ z2e w K l ys
  | [], _, ⟨va, ys, h1, h2, h3⟩ => ⟨va, [], by rw[h1, show ys=[] from h3]; rfl, h2, rfl⟩
  | o :: r, _, ⟨vb, ys, h1, h2, h3⟩ => by
    obtain⟨va, zs, e1, e2, e3⟩ := z2e.last h3
    exact⟨va, _ ++ zs, by rw[h1, e1, List.append_assoc], e2, vb, zs, rfl, h2, e3⟩
theorem z2e.at_ {w:World} {K:Nat → Prop}:∀ {l:List (Mk.Bs × List Mk.At)} {xs:List Value}, z2e w K l xs → ∀ (i:Nat) (n:List UInt8) (a:List Mk.At), l[i]? = some (n, a) → ∃ va, AtsV w K va a ∧ xs[i * 4]? = some (.string (st n)) ∧ xs[i * 4 + 1]? = some va ∧ xs[i * 4 + 2]? = some (.string (st [])) ∧ xs[i * 4 + 3]? = some (.slice none 0 0)
  | [], _, _, i, n, a, hi => by simp at hi
  | o :: r, _, ⟨vb, ys, h1, h2, h3⟩, 0, n, a, hi => by
    simp at hi
    subst hi
    rw[h1]
    exact⟨vb, h2, rfl, rfl, rfl, rfl⟩
  | o :: r, _, ⟨vb, ys, h1, h2, h3⟩, i + 1, n, a, hi => by
    obtain⟨va, e0, e1, e2, e3, e4⟩ := z2e.at_ h3 i n a (by simpa using hi)
    rw[h1]
    refine⟨va, e0, ?_, ?_, ?_, ?_⟩
    · rw[show (i + 1) * 4=i * 4 + 4 by omega, List.getElem?_append_right (by simp)]; simpa using e1
    · rw[show (i + 1) * 4 + 1=i * 4 + 1 + 4 by omega, List.getElem?_append_right (by simp)]; simpa using e2
    · rw[show (i + 1) * 4 + 2=i * 4 + 2 + 4 by omega, List.getElem?_append_right (by simp)]; simpa using e3
    · rw[show (i + 1) * 4 + 3=i * 4 + 3 + 4 by omega, List.getElem?_append_right (by simp)]; simpa using e4

structure BldV (w:World) (B P:Nat) (K:Nat → Prop) (fs:List Mk.Fo) (os:List (Mk.Bs × List Mk.At)) (vn vo:Value) (ns xo:List Value):Prop where
  blk:Blk w P 186 #[vn, vo]
  hP:B ≤ P
  nK:¬ K P
  kle:∀ b, K b → B ≤ b ∧ b < w.heap.size
  rn:w.ownsRow B 51 1 vn fs.length ns
  ro:w.ownsRow B 53 4 vo os.length xo
  oc:z2e w K os xo
  fo:∀ (i:Nat) (f:Mk.Fo) (v:Value), fs[i]? = some f → ns[i]? = some v → ∃ xs, OwnF w B K v f xs
  dn:∀ g, vn.ownBlock=some g → g ≠ P ∧ ¬ K g
  do_:∀ g, vo.ownBlock=some g → g ≠ P ∧ ¬ K g ∧ vn.ownBlock ≠ some g
  df:∀ (i:Nat) (v:Value) (g:Nat), ns[i]? = some v → v.ownBlock=some g → g ≠ P ∧ vn.ownBlock ≠ some g ∧ vo.ownBlock ≠ some g ∧ ∀ (j:Nat) (u:Value), ns[j]? = some u → u.ownBlock=some g → i=j
section
variable {w w' : World} {B P : Nat} {K K' : Nat → Prop} {fs L : List Mk.Fo} {os : List (Mk.Bs × List Mk.At)} {vn vo : Value} {ns xo : List Value}
theorem V7 {size n:Nat} {e:TypeId} {v:Value} {xs:List Value} (h:w.ownsRow B e size v n xs) (hk:∀ g, v.ownBlock=some g → w'.heap[g]? = w.heap[g]?):w'.ownsRow B e size v n xs := by
  refine⟨h.1, h.2.imp id ?_⟩
  rintro ⟨g, cap, cur, h1, h2, h3, h4⟩
  exact⟨g, cap, cur, h1, h2, (hk g (by rw[h1]; rfl)).trans h3, h4⟩
theorem BldV.nlen (h:BldV w B P K fs os vn vo ns xo):ns.length=fs.length := by have := h.rn.1; omega
theorem BldV.below (h:BldV w B P K fs os vn vo ns xo) (hb:Below w.heap.size w w'):BldV w' B P K fs os vn vo ns xo :=
  ⟨(hb.block P (Blk.lt h.blk)).trans h.blk, h.hP, h.nK, fun b q => ⟨(h.kle b q).1, Nat.lt_of_lt_of_le (h.kle b q).2 hb.size⟩,
   V7 h.rn fun g hg => hb.block g (h.rn.lt g hg).2, V7 h.ro fun g hg => hb.block g (h.ro.lt g hg).2,
   h.oc.frame fun b q => ⟨q, hb.block b (h.kle b q).2⟩,
   fun i f v h1 h2 => by
     obtain⟨xs, o⟩ := h.fo i f v h1 h2
     exact⟨xs, o.frame hb.size fun b q _ => hb.block b q⟩,
   h.dn, h.do_, h.df⟩
theorem BldV.blt (h:BldV w B P K fs os vn vo ns xo):B ≤ w.heap.size := Nat.le_trans h.hP (Nat.le_of_lt (Blk.lt h.blk))
theorem BldV.more (h:BldV w B P K fs os vn vo ns xo) (hK:∀ b, K b → K' b) (h1:∀ b, K' b → B ≤ b ∧ b < w.heap.size) (h2:∀ b, K' b → b ≠ P ∧ vn.ownBlock ≠ some b ∧ vo.ownBlock ≠ some b ∧ ∀ (i:Nat) (v:Value), ns[i]? = some v → v.ownBlock ≠ some b):BldV w B P K' fs os vn vo ns xo :=
  ⟨h.blk, h.hP, fun q => (h2 P q).1 rfl, h1, h.rn, h.ro, h.oc.frame fun b q => ⟨hK b q, rfl⟩,
   fun i f v e1 e2 => by
     obtain⟨xs, o⟩ := h.fo i f v e1 e2
     exact⟨xs, o.own, o.cells.frame (fun b q => ⟨hK b q, rfl⟩), fun g hg q => (h2 g q).2.2.2 i v e2 hg, fun b q => (h1 b q).2⟩,
   fun g hg => ⟨(h.dn g hg).1, fun q => (h2 g q).2.1 hg⟩, fun g hg => ⟨(h.do_ g hg).1, fun q => (h2 g q).2.2.1 hg, (h.do_ g hg).2.2⟩, h.df⟩
theorem BldV.own_at (h:BldV w B P K fs os vn vo ns xo) {i:Nat} {v:Value} (hv:ns[i]? = some v):∃ f xs, OwnF w B K v f xs ∧ i < ns.length := by
  have h1:i < ns.length := by
    rcases Nat.lt_or_ge i ns.length with q | q
    · exact q
    · rw[List.getElem?_eq_none q] at hv; cases hv
  have h2:i < fs.length := by rw[← h.nlen]; exact h1
  obtain⟨xs, o⟩ := h.fo i fs[i] v (List.getElem?_eq_getElem h2) hv
  exact⟨_, xs, o, h1⟩
theorem z15 {α:Type _} (l:List α) (x:α) (n:Nat) (h:n=l.length):(l ++ [x])[n]? = some x := by subst h; simp
theorem BldV.last {f:Mk.Fo} (h:BldV w B P K (L ++ [f]) os vn vo ns xo):∃ g cap v xs, vn=.slice (some ⟨g, 0, none⟩) (L.length + 1) cap ∧ w.cell? ⟨g, L.length, none⟩=some v ∧ ns[L.length]? = some v ∧ OwnF w B K v f xs ∧ (∀ i, w.frozen? ⟨g, i, none⟩=false) := by
  rcases h.rn.2 with ⟨_, h0⟩ | ⟨g, cap, cur, hv, hb, hh, hnc, hcm, hcs, ht⟩
  · simp at h0
  · have hl := h.nlen
    rw[List.length_append, List.length_singleton] at hl hv
    have hi:L.length < ns.length := by omega
    have hv1:ns[L.length]? = some ns[L.length] := List.getElem?_eq_getElem hi
    obtain⟨xs, ho⟩ := h.fo L.length f _ (z15 L f _ rfl) hv1
    have hc := h.rn.cells (g := g) (by rw[hv]; rfl) _ _ hv1
    have e0:∀ j, (⟨g, 0, none⟩:Addr).add j=⟨g, j, none⟩ := by intro j; unfold Addr.add; split <;> simp_all
    rw[e0] at hc
    exact⟨g, cap, _, xs, hv, hc, hv1, ho, fun i => by simp[World.frozen?, hh]⟩
theorem BldV.turn {f f':Mk.Fo} {v:Value} {xs:List Value} (h:BldV w B P K (L ++ [f]) os vn vo ns xo) (hv:ns[L.length]? = some v) (ho:OwnF w' B K v f' xs) (hs:w.heap.size ≤ w'.heap.size) (hb:∀ b, b < w.heap.size → v.ownBlock ≠ some b → w'.heap[b]? = w.heap[b]?):BldV w' B P K (L ++ [f']) os vn vo ns xo := by
  have hd := h.df L.length v
  have kp:∀ b, K b → K b ∧ w'.heap[b]? = w.heap[b]? := fun b q => ⟨q, hb b (h.kle b q).2 fun e => ho.ne b e q⟩
  refine⟨(hb P (Blk.lt h.blk) fun e => (hd P hv e).1 rfl).trans h.blk, h.hP, h.nK, fun b q => ⟨(h.kle b q).1, Nat.lt_of_lt_of_le (h.kle b q).2 hs⟩,
    V7 (by have := h.rn; rwa [List.length_append] at this ⊢) fun g hg => hb g (h.rn.lt g hg).2 fun e => (hd g hv e).2.1 hg, V7 h.ro fun g hg => hb g (h.ro.lt g hg).2 fun e => (hd g hv e).2.2.1 hg,
    h.oc.frame kp, ?_, h.dn, h.do_, h.df⟩
  intro i f1 v1 e1 e2
  rcases Nat.lt_trichotomy i L.length with hi | hi | hi
  · rw[List.getElem?_append_left hi] at e1
    obtain⟨xs1, o⟩ := h.fo i f1 v1 (by rw[List.getElem?_append_left hi]; exact e1) e2
    refine⟨xs1, o.frame hs fun b q1 q2 => hb b q1 fun e => ?_⟩
    rcases q2 with q2 | q2
    · exact ho.ne b e q2
    · have := (hd b hv e).2.2.2 i v1 e2 q2
      omega
  · subst hi
    rw[z15 L f' _ rfl] at e1
    injection e1 with e1
    rw[hv] at e2
    injection e2 with e2
    subst e1; subst e2
    exact⟨xs, ho⟩
  · rw[List.getElem?_eq_none (by simp; omega)] at e1
    cases e1
theorem BldV.swap {f f':Mk.Fo} {v v':Value} {xs:List Value} {gn:Nat} (h:BldV w B P K (L ++ [f]) os vn vo ns xo) (hn:vn.ownBlock=some gn) (hv:ns[L.length]? = some v) (ho:OwnF w' B K v' f' xs) (hs:w.heap.size ≤ w'.heap.size)
    (hfr:v'.ownBlock=v.ownBlock∨∃ g, v'.ownBlock=some g ∧ w.heap.size ≤ g) (hb:∀ b, b < w.heap.size → v.ownBlock ≠ some b → b ≠ gn → w'.heap[b]? = w.heap[b]?)
    (hrn:w'.ownsRow B 51 1 vn (L.length + 1) (ns.set L.length v')) (hnK:∀ g, v.ownBlock=some g → ¬ K g):BldV w' B P K (L ++ [f']) os vn vo (ns.set L.length v') xo := by
  have hd := h.df L.length v
  have kp:∀ b, K b → K b ∧ w'.heap[b]? = w.heap[b]? := fun b q => ⟨q, hb b (h.kle b q).2 (fun e => hnK b e q) (fun e => (h.dn gn hn).2 (e ▸ q))⟩
  have hil:L.length < ns.length := by have := h.nlen; simp at this; omega
  have fr:∀ g, v'.ownBlock=some g → v.ownBlock=some g∨w.heap.size ≤ g := by
    intro g hg
    rcases hfr with e | ⟨b, e, hle⟩
    · exact .inl (by rw[← e]; exact hg)
    · rw[e] at hg; injection hg with hg; exact .inr (by omega)
  have hPl := Blk.lt h.blk
  have nw:∀ g, v'.ownBlock=some g → g ≠ P ∧ vn.ownBlock ≠ some g ∧ vo.ownBlock ≠ some g := by
    intro g hg
    rcases fr g hg with e | e
    · exact⟨(hd g hv e).1, (hd g hv e).2.1, (hd g hv e).2.2.1⟩
    · refine⟨by omega, fun q => ?_, fun q => ?_⟩
      · have := (h.rn.lt g q).2; omega
      · have := (h.ro.lt g q).2; omega
  refine⟨(hb P hPl (fun e => (hd P hv e).1 rfl) (fun e => (h.dn gn hn).1 e.symm)).trans h.blk, h.hP, h.nK, fun b q => ⟨(h.kle b q).1, Nat.lt_of_lt_of_le (h.kle b q).2 hs⟩,
    by rw[List.length_append]; exact hrn, V7 h.ro fun g hg => hb g (h.ro.lt g hg).2 (fun e => (hd g hv e).2.2.1 hg) (fun e => (h.do_ g hg).2.2 (by rw[hn, e])),
    h.oc.frame kp, ?_, h.dn, h.do_, ?_⟩
  · intro i f1 v1 e1 e2
    rcases Nat.lt_trichotomy i L.length with hi | hi | hi
    · rw[List.getElem?_append_left hi] at e1
      rw[List.getElem?_set_ne (by omega)] at e2
      obtain⟨xs1, o⟩ := h.fo i f1 v1 (by rw[List.getElem?_append_left hi]; exact e1) e2
      refine⟨xs1, o.frame hs fun b q1 q2 => ?_⟩
      rcases q2 with q2 | q2
      · exact(kp b q2).2
      · refine hb b q1 (fun e => ?_) (fun e => (h.df i v1 b e2 q2).2.1 (by rw[hn, e]))
        have := (hd b hv e).2.2.2 i v1 e2 q2
        omega
    · subst hi
      rw[z15 L f' _ rfl] at e1
      injection e1 with e1
      rw[List.getElem?_set_self hil] at e2
      injection e2 with e2
      subst e1; subst e2
      exact⟨xs, ho⟩
    · rw[List.getElem?_eq_none (by simp; omega)] at e1
      cases e1
  · intro i u g e1 e2
    rcases Nat.lt_trichotomy i L.length with hi | hi | hi
    · rw[List.getElem?_set_ne (by omega)] at e1
      obtain⟨a1, a2, a3, a4⟩ := h.df i u g e1 e2
      refine⟨a1, a2, a3, fun j x e3 e4 => ?_⟩
      by_cases hj:j=L.length
      · subst hj
        rw[List.getElem?_set_self hil] at e3
        injection e3 with e3
        subst e3
        rcases fr g e4 with e | e
        · exact a4 _ _ hv e
        · obtain⟨_, xs1, o, _⟩ := h.own_at e1
          have := (o.own.lt g e2).2
          omega
      · rw[List.getElem?_set_ne (by omega)] at e3
        exact a4 j x e3 e4
    · subst hi
      rw[List.getElem?_set_self hil] at e1
      injection e1 with e1
      subst e1
      obtain⟨a1, a2, a3⟩ := nw g e2
      refine⟨a1, a2, a3, fun j x e3 e4 => ?_⟩
      by_cases hj:j=L.length
      · exact hj.symm
      · rw[List.getElem?_set_ne (by omega)] at e3
        rcases fr g e2 with e | e
        · exact(hd g hv e).2.2.2 j x e3 e4
        · obtain⟨_, xs1, o, _⟩ := h.own_at e3
          have := (o.own.lt g e4).2
          omega
    · rw[List.getElem?_set_ne (by omega)] at e1
      have h1:i < ns.length := by
        rcases Nat.lt_or_ge i ns.length with q | q
        · exact q
        · rw[List.getElem?_eq_none q] at e1; cases e1
      have := h.nlen
      simp at this
      omega
end
theorem q3h (w:World) (p:Addr) (v:Value):(w.setCell p v).os=w.os:=rfl
theorem z9t (w:World) (p:Addr) (v:Value):(w.setCell p v).tape=w.tape:=rfl
theorem z7r (w:World) (p:Addr) (v:Value):(w.setCell p v).output=w.output:=rfl
theorem z8k (w:World) (p q:Addr) (u v:Value) (h:p.block ≠ q.block):((w.setCell p u).setCell q v).heap=((w.setCell q v).setCell p u).heap:=by
 apply Array.ext_getElem?
 intro b;simp only [World.setCell,Array.getElem?_modify]
 by_cases h1:p.block=b
 ·have h2:¬ q.block=b:=fun e=>h (h1.trans e.symm)
  simp[h1,h2]
 ·simp[h1]
theorem heap_set (w w':World) (h:w.heap=w'.heap) (p:Addr) (u:Value):(w.setCell p u).heap=(w'.setCell p u).heap:=by
 simp only [World.setCell,h]
theorem z99 (w:World) (q p0 p1 p2 p3:Addr) (v u0 u1 u2 u3:Value) (h0:p0.block ≠ q.block) (h1:p1.block ≠ q.block) (h2:p2.block ≠ q.block) (h3:p3.block ≠ q.block) :
  (((((w.setCell q v).setCell p0 u0).setCell p1 u1).setCell p2 u2).setCell p3 u3).heap=(((((w.setCell p0 u0).setCell p1 u1).setCell p2 u2).setCell p3 u3).setCell q v).heap:=by
 rw[z8k _ p3 q u3 v h3]
 apply heap_set
 rw[z8k _ p2 q u2 v h2]
 apply heap_set
 rw[z8k _ p1 q u1 v h1]
 apply heap_set
 exact(z8k _ p0 q u0 v h0).symm
theorem and_fin {A B C:Prop} (h:A∧B) (f:B→C):A∧C:=⟨h.1,f h.2⟩
theorem set4 {xs:List Value} {m:Nat} (h:xs.length=m) (a b c d a' b' c' d':Value):((((xs++[a,b,c,d]).set m a').set (m + 1) b').set (m + 2) c').set (m + 3) d'=xs++[a',b',c',d']:=by
 subst h;simp[List.set_append_right]
section
variable {w1 w9 w10 : World} {B P gn capn : Nat} {K : Nat→Prop} {L : List Mk.Fo} {f : Mk.Fo} {os : List (Mk.Bs × List Mk.At)} {vo v' : Value} {ns xo xs : List Value} {ao0 : Option Addr} {cap0 : Nat}
theorem j1e (h:BldV w1 B P K (L++[f]) os (.slice (some ⟨gn,0,none⟩) (L.length + 1) capn) vo ns xo) (hns:ns[L.length]? = some (.slice ao0 f.len cap0)) (hcn:w1.cell? ⟨gn,L.length,none⟩=some (.slice ao0 f.len cap0))
  (hx:xs.length=f.len * 4) (hb9:Below w1.heap.size w1 w9) (hown:w10.ownsRow B 53 4 v' (f.len + 1) (xs++[.string ⟨#[]⟩,.slice none 0 0,.string ⟨#[]⟩,.slice none 0 0])) (hg:w9.grownBy w10 (Value.slice ao0 f.len cap0).ownBlock)
  (hf:v'.ownBlock=(Value.slice ao0 f.len cap0).ownBlock∨v'.ownBlock=some w9.heap.size) :
  ∃ g' cap',v'=.slice (some ⟨g',0,none⟩) (f.len + 1) cap'∧w10.cell? ⟨g',f.len * 4,none⟩=some (.string ⟨#[]⟩)∧w10.cell? ⟨g',f.len * 4 + 1,none⟩=some (.slice none 0 0)∧w10.cell? ⟨g',f.len * 4 + 2,none⟩=some (.string ⟨#[]⟩)∧w10.cell? ⟨g',f.len * 4 + 3,none⟩=some (.slice none 0 0)∧(∀ i,w10.frozen? ⟨g',i,none⟩=false)∧w10.cell? ⟨gn,L.length,none⟩=some (.slice ao0 f.len cap0)∧w10.frozen? ⟨gn,L.length,none⟩=false∧gn ≠ g'∧(∀ b,b < w1.heap.size→(Value.slice ao0 f.len cap0).ownBlock ≠ some b→w10.heap[b]? = w1.heap[b]?):=by
 have hgn:(Value.slice (some ⟨gn,0,none⟩) (L.length + 1) capn).ownBlock=some gn:=rfl;have hgl:=(h.rn.lt gn hgn).2;have hne0:(Value.slice ao0 f.len cap0).ownBlock ≠ some gn:=fun e=>(h.df _ _ gn hns e).2.1 rfl
 have hw:w10.heap[gn]? = w1.heap[gn]?:=(hg.block gn (Nat.lt_of_lt_of_le hgl hb9.size) (fun e=>hne0 e.symm)).trans (hb9.block gn hgl)
 rcases hown.2 with ⟨_,h0⟩ | ⟨g',cap',cur,hv,hb,hh,hnc,hcm,hcs,ht⟩
 ·omega
 ·have hc:=hown.cells (g:=g') (by rw[hv];rfl)
  have e0:∀ j,(⟨g',0,none⟩:Addr).add j=⟨g',j,none⟩:=by intro j;unfold Addr.add;split <;> simp_all
  have hcc:∀ i u,[Value.string ⟨#[]⟩,.slice none 0 0,.string ⟨#[]⟩,.slice none 0 0][i]? = some u→w10.cell? ⟨g',f.len * 4 + i,none⟩=some u:=by
   intro i u hu;have:=hc (f.len * 4 + i) u (by rw[List.getElem?_append_right (by omega),hx];simpa using hu)
   rwa [e0] at this
  refine⟨g',cap',hv,hcc 0 _ rfl,hcc 1 _ rfl,hcc 2 _ rfl,hcc 3 _ rfl,fun i=>by simp[World.frozen?,hh],(cell_of_block hw _).trans hcn,?_,?_,fun b h1 h2=>(hg.block b (Nat.lt_of_lt_of_le h1 hb9.size) (fun e=>h2 e.symm)).trans (hb9.block b h1)⟩
  ·obtain⟨g2,cap2,cur2,hv2,_,hh2,_⟩:∃ g2 cap2 cur2,(Value.slice (some ⟨gn,0,none⟩) (L.length + 1) capn)=.slice (some ⟨g2,0,none⟩) (L.length + 1) cap2∧B≤g2∧w1.heap[g2]? = some (.cells cur2 51 (0,0))∧True:=by
    rcases h.rn.2 with ⟨hq,_⟩ | ⟨g2,cap2,cur2,hv2,hb2,hh2,_⟩
    ·cases hq
    ·exact⟨g2,cap2,cur2,by rw[List.length_append] at hv2;exact hv2,hb2,hh2,trivial⟩
   injection hv2 with hv2 _ _;injection hv2 with hv2;injection hv2 with hv2;subst hv2;simp[World.frozen?,hw,hh2]
  ·rintro rfl
   rcases hf with e | e
   ·rw[hv] at e;exact hne0 e.symm
   ·rw[hv] at e
    have e:some gn=some w9.heap.size:=e;injection e with e;have:=hb9.size;omega
theorem bld_done (h:BldV w1 B P K (L++[f]) os (.slice (some ⟨gn,0,none⟩) (L.length + 1) capn) vo ns xo) (hns:ns[L.length]? = some (.slice ao0 f.len cap0)) (hof:OwnF w1 B K (.slice ao0 f.len cap0) f xs) (hb9:Below w1.heap.size w1 w9) {g' cap':Nat}
  (hown:w10.ownsRow B 53 4 (.slice (some ⟨g',0,none⟩) (f.len + 1) cap') (f.len + 1) (xs++[.string ⟨#[]⟩,.slice none 0 0,.string ⟨#[]⟩,.slice none 0 0])) (hg:w9.grownBy w10 (Value.slice ao0 f.len cap0).ownBlock)
  (hf:(Value.slice (some ⟨g',0,none⟩) (f.len + 1) cap').ownBlock=(Value.slice ao0 f.len cap0).ownBlock∨(Value.slice (some ⟨g',0,none⟩) (f.len + 1) cap').ownBlock=some w9.heap.size) (hgg:gn ≠ g')
  {n:List UInt8} {a:List Mk.At} {t:List UInt8} {k:Mk.Fo} {va:Value} {ao:Option Addr} {cap:Nat} {zs:List Value} (h2:AtsV w1 K va a) (h3:z19 w1 K ao zs) (h4:k.len≤maxLen) (h5:z07 w1 K k zs) (hm:f.merges n=false) {wF:World}
  (hF:wF.heap=(((((w10.setCell ⟨g',f.len * 4,none⟩ (.string (st n))).setCell ⟨g',f.len * 4 + 1,none⟩ va).setCell ⟨g',f.len * 4 + 2,none⟩ (.string (st t))).setCell ⟨g',f.len * 4 + 3,none⟩ (.slice ao k.len cap)).setCell ⟨gn,L.length,none⟩ (.slice (some ⟨g',0,none⟩) (f.len + 1) cap')).heap∨wF.heap=(((((w10.setCell ⟨gn,L.length,none⟩ (.slice (some ⟨g',0,none⟩) (f.len + 1) cap')).setCell ⟨g',f.len * 4,none⟩ (.string (st n))).setCell ⟨g',f.len * 4 + 1,none⟩ va).setCell ⟨g',f.len * 4 + 2,none⟩ (.string (st t))).setCell ⟨g',f.len * 4 + 3,none⟩ (.slice ao k.len cap)).heap) (ho:wF.os=w10.os) (htp:wF.tape=w10.tape) (hout:wF.output=w10.output) :
  (∃ ns',BldV wF B P K (L++[Mk.Fo.snoc n a t k f]) os (.slice (some ⟨gn,0,none⟩) (L.length + 1) capn) vo ns' xo)∧Ap (fun b=>B≤b∧¬ K b) w1 wF:=by
 have hF:wF.heap=(((((w10.setCell ⟨g',f.len * 4,none⟩ (.string (st n))).setCell ⟨g',f.len * 4 + 1,none⟩ va).setCell ⟨g',f.len * 4 + 2,none⟩ (.string (st t))).setCell ⟨g',f.len * 4 + 3,none⟩ (.slice ao k.len cap)).setCell ⟨gn,L.length,none⟩ (.slice (some ⟨g',0,none⟩) (f.len + 1) cap')).heap:=by
  rcases hF with h | h
  ·exact h
  ·exact h.trans (z99 _ _ _ _ _ _ _ _ _ _ _ (fun e=>hgg e.symm) (fun e=>hgg e.symm) (fun e=>hgg e.symm) (fun e=>hgg e.symm))
 have hgn:(Value.slice (some ⟨gn,0,none⟩) (L.length + 1) capn).ownBlock=some gn:=rfl;have hg':(Value.slice (some ⟨g',0,none⟩) (f.len + 1) cap').ownBlock=some g':=rfl;have hgl:=h.rn.lt gn hgn;have hlen:=hof.cells.length;have S1:=z4n hown hg' (f.len * 4) (.string (st n));have S2:=z4n S1 hg' (f.len * 4 + 1) va;have S3:=z4n S2 hg' (f.len * 4 + 2) (.string (st t));have S4:=z4n S3 hg' (f.len * 4 + 3) (.slice ao k.len cap);rw[set4 hlen] at S4;have S5:=ownsRow_setCell_other S4 (a:=⟨gn,L.length,none⟩) (by rw[hg'];intro e;injection e with e;exact hgg e.symm) (.slice (some ⟨g',0,none⟩) (f.len + 1) cap');have SF:wF.ownsRow B 53 4 (.slice (some ⟨g',0,none⟩) (f.len + 1) cap') (f.len + 1) (xs++[.string (st n),va,.string (st t),.slice ao k.len cap]):=V7 S5 (fun g _=>by rw[hF]);have hbF:∀ b,b ≠ g'→b ≠ gn→wF.heap[b]? = w10.heap[b]?:=by
  intro b h1 h2;rw[hF,Below.heap_setCell _ ⟨gn,L.length,none⟩ _ b h2,Below.heap_setCell _ ⟨g',f.len * 4 + 3,none⟩ _ b h1,Below.heap_setCell _ ⟨g',f.len * 4 + 2,none⟩ _ b h1,Below.heap_setCell _ ⟨g',f.len * 4 + 1,none⟩ _ b h1,Below.heap_setCell _ ⟨g',f.len * 4,none⟩ _ b h1]
 have fr:g' < w1.heap.size→(Value.slice ao0 f.len cap0).ownBlock=some g':=by
  intro hlt
  rcases hf with e | e
  ·rw[← e];exact hg'
  ·rw[hg'] at e;injection e with e;have:=hb9.size;omega
 have hsz:w10.heap.size=wF.heap.size:=by rw[hF];simp[World.setCell]
 have hs:w1.heap.size≤wF.heap.size:=by rw[← hsz];exact Nat.le_trans hb9.size hg.size
 have hb:∀ b,b < w1.heap.size→(Value.slice ao0 f.len cap0).ownBlock ≠ some b→b ≠ gn→wF.heap[b]? = w1.heap[b]?:=by
  intro b h1 h2 h3;rw[hbF b (by rintro rfl;exact h2 (fr h1)) h3,hg.block b (Nat.lt_of_lt_of_le h1 hb9.size) (fun e=>h2 e.symm),hb9.block b h1]
 have hKn:∀ b,K b→wF.heap[b]? = w1.heap[b]?:=fun b q=>hb b (hof.le b q) (fun e=>hof.ne b e q) (fun e=>(h.dn gn hgn).2 (e ▸ q))
 have hne0:(Value.slice ao0 f.len cap0).ownBlock ≠ some gn:=fun e=>(h.df _ _ gn hns e).2.1 rfl
 have hw:w10.heap[gn]? = w1.heap[gn]?:=(hg.block gn (Nat.lt_of_lt_of_le hgl.2 hb9.size) (fun e=>hne0 e.symm)).trans (hb9.block gn hgl.2);refine⟨⟨_,h.swap hgn hns (v':=.slice (some ⟨g',0,none⟩) (f.len + 1) cap') (f':=Mk.Fo.snoc n a t k f) (xs:=xs++[.string (st n),va,.string (st t),.slice ao k.len cap]) ⟨?_,?_,?_,?_⟩ hs ?_ hb ?_ hof.ne⟩,?_⟩
 ·rw[Mk.Fo.z5t f n a t k hm];exact SF
 ·exact(z07.push h2 h3 h4 h5 f xs hof.cells hm).frame fun b q=>⟨q,hKn b q⟩
 ·intro g e q
  rw[hg'] at e;injection e with e;subst e;exact hof.ne _ (fr (hof.le _ q)) q
 ·exact fun b q=>Nat.lt_of_lt_of_le (hof.le b q) hs
 ·rcases hf with e | e
  ·exact .inl e
  ·exact .inr ⟨_,e,hb9.size⟩
 ·have hrn:=h.rn
  rw[List.length_append] at hrn;have R10:w10.ownsRow B 51 1 (.slice (some ⟨gn,0,none⟩) (L.length + 1) capn) (L.length + 1) ns:=V7 hrn (fun g e=>by rw[hgn] at e;injection e with e;rw[← e];exact hw);have R11:=V7 R10 (w':=(((w10.setCell ⟨g',f.len * 4,none⟩ (.string (st n))).setCell ⟨g',f.len * 4 + 1,none⟩ va).setCell ⟨g',f.len * 4 + 2,none⟩ (.string (st t))).setCell ⟨g',f.len * 4 + 3,none⟩ (.slice ao k.len cap)) (fun g e=>by
   rw[hgn] at e;injection e with e;have h1:g ≠ g':=by rw[← e];exact hgg
   rw[Below.heap_setCell _ ⟨g',f.len * 4 + 3,none⟩ _ g h1,Below.heap_setCell _ ⟨g',f.len * 4 + 2,none⟩ _ g h1,Below.heap_setCell _ ⟨g',f.len * 4 + 1,none⟩ _ g h1,Below.heap_setCell _ ⟨g',f.len * 4,none⟩ _ g h1])
  exact V7 (z4n R11 hgn L.length (.slice (some ⟨g',0,none⟩) (f.len + 1) cap')) (fun g _=>by rw[hF])
 ·refine⟨ho.trans (hg.os.trans hb9.os),htp.trans (hg.tape.trans hb9.tape),hout.trans (hg.output.trans hb9.output),hs,fun b h1 h2=>?_⟩
  by_cases hB:B≤b
  ·have q:K b:=Classical.byContradiction fun q=>h2 ⟨hB,q⟩
   exact hKn b q
  ·refine hb b h1 (fun e=>?_) (fun e=>?_)
   ·have:=(hof.own.lt b e).1;omega
   ·have:=hgl.1;omega
end
end Go.Proofs.YtjonkbdldebkiaaGreatDoor
namespace Go.Proofs.YtjonkbdldebkiaaGreatDoor
open Go.Proofs.Tryz Go.RowKit
theorem tr_put {w:World} {B P:Nat} {K:Nat→Prop} {L:List Mk.Fo} {f:Mk.Fo} {os:List (Mk.Bs × List Mk.At)} {vn vo:Value} {ns xo:List Value} (h:BldV w B P K (L++[f]) os vn vo ns xo) (n:List UInt8) (a:List Mk.At) (t:List UInt8) (k:Mk.Fo) (va:Value) (hva:AtsV w K va a) (ao:Option Addr) (cap:Nat) (zs:List Value) (hvk2:z19 w K ao zs) (hvk3:z07 w K k zs) (hvk4:k.len≤maxLen)
  (hbk:f.bulk + (1 + n.length + t.length + Mk.Fo.atB a + k.bulk)≤1099511627776) (hL:L.length≤1048576) :
  Calls prog 189 #[.pointer (some ⟨P,0,none⟩),z05 n va t (.slice ao k.len cap)] w fun e w'=>e=.returned (.tuple #[])∧(∃ ns',BldV w' B P K (L++[Mk.Fo.snoc n a t k f]) os vn vo ns' xo)∧Ap (fun b=>B≤b∧¬ K b) w w':=by
 have hst:∀ l:List UInt8,(st l).toList=l:=fun l=>Lib.toList_data _
 obtain⟨aoa,capa,hva1,hva2⟩:=id hva;subst hva1;have H:=Ld h;have HVA:=Ld hva;have HVK:=Ld hvk2;have HVF:=Ld hvk3;obtain⟨gn,capn,v,xs,hvn,hcn,hns,hof,hfr⟩:=h.last;subst hvn;obtain⟨ao0,cap0,hu0⟩:=Z9 hof.own;subst hu0;have hal:=(Below.refl w.heap.size w).alloc (Lr) (.cells #[.string (st n),.slice aoa a.length capa,.string (st t),.slice ao k.len cap] 53);have PB:=Ld (Blk.new w 53 #[.string (st n),.slice aoa a.length capa,.string (st t),.slice ao k.len cap]);have H1:=Ld (h.below hal);have hvnb:(Value.slice (some ⟨gn,0,none⟩) (L.length + 1) capn).ownBlock=some gn:=rfl;have hgl:=(h.rn.lt gn hvnb).2;have hgP:=(h.dn gn hvnb).1;have hPl:=Blk.lt h.blk;have OF1:=Ld (hof.frame hal.size (fun b hb _=>hal.block b hb));have HAL:=Ld hal;have HNS:=Ld hns;have HNE0:Hid ((Value.slice ao0 f.len cap0).ownBlock ≠ some w.heap.size):=by
  intro e;have:=(hof.own.lt _ e).2;omega
 have e1:(w.alloc (.cells #[.string (st n),.slice aoa a.length capa,.string (st t),.slice ao k.len cap] 53)).cell? ⟨gn,L.length,none⟩=some (.slice ao0 f.len cap0):=(cell_of_block (hal.block gn hgl) _).trans hcn;have c0:(w.alloc (.cells #[.string (st n),.slice aoa a.length capa,.string (st t),.slice ao k.len cap] 53)).cell? ⟨P,0,none⟩=some (.slice (some ⟨gn,0,none⟩) (L.length + 1) capn):=Blk.cell H1.out.blk 0;have hbn:n=[]∨n.isEmpty=false:=by
  cases n with
  | nil=>exact .inl rfl
  | cons _ _=>exact .inr rfl
 have HBN:=Ld hbn;have hfl:=Mk.Fo.z1r f;have htl:=Mk.Fo.z7a f;unfold z05;clear h hva hvk2 hvk3 hva2 hof hcn hal hns hfr hvnb hbn;go_enter func189,ntmps189;go_upto_region 1 with fail
 go_region
 all_goals
  generalize hw1:(w.alloc (.cells #[.string (st n),.slice aoa a.length capa,.string (st t),.slice ao k.len cap] 53))=w1 at PB H1 OF1 HAL e1 c0 ⊢;clear hw1;have p0:w1.cell? ⟨w.heap.size,0,none⟩=some (.string (st n)):=Blk.cell PB.out 0;go_upto_region 3 with fail
  go_cut [38] (fun b wx=>b=.bool (f.merges n)∧wx=w1.drew)
  case first =>
   rcases HBN.out with hn | hn
   ·by_cases hf0:f=.nil
    ·have HM:Hid (f.merges n=false):=by show _=_;rw[hf0,Mk.Fo.z4u]
     have hl0:¬ 0 < f.len:=by rw[hf0];simp[Mk.Fo.len]
     have HN:=Ld hn;have he:n.isEmpty=true:=by rw[hn];rfl
     clear hn hf0;go_wp2_with fail;go_meet
     case rel=>exact⟨by rw[HM.out],rfl⟩
    ·obtain⟨g0,capz,hz,d1,d2,df⟩:=OF1.out.last hf0
     injection hz with z1 z2 z3;subst z1;subst z3;have hl0:0 < f.len:=z3i f hf0;obtain⟨j,hj⟩:∃ j,j=f.len - 1:=⟨_,rfl⟩;rw[← hj] at d1;have hj1:(f.len:Int) - 1=j:=by omega
     have hj2:(j:Int) < f.len:=by omega
     have hj3:(0:Int)≤j:=by omega
     have he:n.isEmpty=true:=by rw[hn];rfl
     have hbl:f.z6a=[]∨f.z6a.isEmpty=false:=by
      cases f.z6a with
      | nil=>exact .inl rfl
      | cons _ _=>exact .inr rfl
     have HN:=Ld hn;have HF0:=Ld hf0;clear hj d2 df hn hf0
     rcases hbl with h1 | h1
     ·have HM:Hid (f.merges n=true):=(Mk.Fo.V6 _ _).2 ⟨HN.out,HF0.out,h1⟩
      have he1:f.z6a.isEmpty=true:=by rw[h1];rfl
      clear h1;go_wp2_with fail;go_meet
      case rel=>exact⟨by rw[HM.out],rfl⟩
     ·have HM:Hid (f.merges n=false):=by
       show _=_;rw[Bool.eq_false_iff];intro q;rw[((Mk.Fo.V6 _ _).1 q).2.2] at h1;cases h1
      go_wp2_with fail;go_meet
      case rel=>exact⟨by rw[HM.out],rfl⟩
   ·have HM:Hid (f.merges n=false):=by
     show _=_;rw[Bool.eq_false_iff];intro q;rw[((Mk.Fo.V6 _ _).1 q).1] at hn;cases hn
    go_wp2_with fail;go_meet
    case rel=>exact⟨by rw[HM.out],rfl⟩
  case rest =>
   obtain⟨rfl,hw⟩:=hcut;subst hw;obtain⟨mb,hmb⟩:∃ mb,f.merges n=mb:=⟨_,rfl⟩;rw[hmb];have HMB:=Ld hmb;clear hmb
   cases mb with
   | true =>
    have hq:=(Mk.Fo.V6 _ _).1 HMB.out;obtain⟨g0,capz,hz,d1,d2,df⟩:=OF1.out.last hq.2.1;injection hz with z1 z2 z3;subst z1;subst z3;have hl0:0 < f.len:=z3i f hq.2.1;have OFM:=Ld (OF1.out.merged a t k HMB.out (g:=g0) rfl);obtain⟨j,hj⟩:∃ j,j=f.len - 1:=⟨_,rfl⟩;rw[← hj] at d1 d2 OFM;have hj1:(f.len:Int) - 1=j:=by omega
    have hj2:(j:Int) < f.len:=by omega
    have hj3:(0:Int)≤j:=by omega
    have p2:w1.cell? ⟨w.heap.size,2,none⟩=some (.string (st t)):=Blk.cell PB.out 2;have df2:=df (j * 4 + 2);have q1:¬ 9223372036854775807 < (st f.lastT).size + (st t).size:=by rw[Z4,Z4];omega
    have hBg:=(OF1.out.own.lt g0 rfl).1;have hKg:=OF1.out.ne g0 rfl;clear hj hq df;go_upto_region 4 with fail
    go_region
    all_goals
     rw[show st f.lastT++st t=st (f.lastT++t) from z3m (st f.lastT) (st t)];go_wp2_with fail;refine bodyPost_ret (results_none rfl _ _ _) rfl ?_;have hov:∀ b,(Value.slice (some ⟨g0,0,none⟩) f.len cap0).ownBlock=some b→b=g0:=fun b e=>by injection e with e;exact e.symm
     refine⟨rfl,⟨_,H1.out.turn HNS.out (f':=Mk.Fo.snoc n a t k f) (xs:=xs.set (4 * j + 2) (.string (st (f.lastT++t)))) ?_ (by simp[World.setCell]) ?_⟩,?_⟩
     ·have q:=OFM.out.frame (w':=(w1.setCell ⟨g0,4 * j + 2,none⟩ (.string (st (f.lastT++t)))).drew.drew) (Lr) (fun _ _ _=>rfl)
      rw[Nat.mul_comm 4 j] at q;rw[Nat.mul_comm 4 j];exact q
     ·intro b _ hb
      exact Below.heap_setCell w1 ⟨g0,j * 4 + 2,none⟩ _ b (by rintro rfl;exact hb rfl)
     ·exact((((Ap.of_below HAL.out).setCell (p:=⟨g0,j * 4 + 2,none⟩) (show B≤g0∧¬ K g0 from ⟨hBg,hKg⟩) (.string (st (f.lastT++t)))).drew).drew)
   | false =>
    have p1:w1.cell? ⟨w.heap.size,1,none⟩=some (.slice aoa a.length capa):=Blk.cell PB.out 1;have p2:w1.cell? ⟨w.heap.size,2,none⟩=some (.string (st t)):=Blk.cell PB.out 2;have p3:w1.cell? ⟨w.heap.size,3,none⟩=some (.slice ao k.len cap):=Blk.cell PB.out 3;go_upto_region 5 with fail;obtain⟨i0,hi,hz0,hz1,hz2⟩:=info_parts Tryz.infoNode;have OW10:=Ld (z0f OF1.out.own (((Ap.refl (fun _=>False) w1).drew).alloc (.cells #[.string ⟨#[]⟩,.slice none 0 0,.string ⟨#[]⟩,.slice none 0 0] 53)) (fun _ _ q=>q));have hBs:B≤w1.heap.size:=H1.out.blt;have hlf:f.len≤1099511627776:=by omega
    have hlf1:(f.len:Int) < f.len + 1:=by omega
    have hxl:=OF1.out.cells.length;have hwl:w.heap.size < w1.heap.size:=Blk.lt PB.out;have hgl1:gn < w1.heap.size:=by omega
    have hne0:(Value.slice ao0 f.len cap0).ownBlock ≠ some w.heap.size:=HNE0.out;have HVL:=Ld hvk4;have HLF:=Ld hlf;clear hgP hPl hfl htl hbk hL hst hvk4 hgl hlf
    go_region_law (refine z0l rfl (.tmp 54) (.tmp 57) 51 rfl B 53 i0 (.agg #[.string ⟨#[]⟩,.slice none 0 0,.string ⟨#[]⟩,.slice none 0 0]) 4 80 underlying51 hi hz0 hz1 hz2 rfl (by decide) (.slice ao0 f.len cap0) f.len xs (by simp[Act.eval,Act.put]) OW10.out ⟨w1.heap.size,0,none⟩ 1 1 [.string ⟨#[]⟩,.slice none 0 0,.string ⟨#[]⟩,.slice none 0 0] (by simp[Act.eval,Act.put]) rfl (z0h w1.drew _ _) (by intro u hu;simp at hu;rcases hu with rfl | rfl | rfl | rfl <;> rfl) (by decide) (by have:=HLF.out;unfold maxLen;omega) (by have:=HLF.out;omega) (by simp;omega) ?_;intro v' w10 hown' hgrow hfresh;have hb9:=((((Below.refl _ w1).alloc (Lr) (.cells #[.string ⟨#[]⟩,.slice none 0 0,.string ⟨#[]⟩,.slice none 0 0] 53)).drew).drew);obtain⟨g',cap',hv',k0,k1,k2,k3,hfz,kn,fn,hgg,hwn⟩:=j1e H1.out HNS.out e1 hxl hb9 hown' hgrow hfresh;subst hv';have z0:=hfz (f.len * 4);have z1:=hfz (f.len * 4 + 1);have z2:=hfz (f.len * 4 + 2);have z3:=hfz (f.len * 4 + 3);have HD:=Ld (fun wF hF h1 h2 h3=>bld_done (wF:=wF) H1.out HNS.out OF1.out hb9 hown' hgrow hfresh hgg (HVA.out.frame fun b q=>⟨q,HAL.out.block b (H.out.kle b q).2⟩) (HVK.out.frame fun b q=>⟨q,HAL.out.block b (H.out.kle b q).2⟩) HVL.out (HVF.out.frame fun b q=>⟨q,HAL.out.block b (H.out.kle b q).2⟩) HMB.out (t:=t) (cap:=cap) hF h1 h2 h3);have hwb:=hwn w.heap.size hwl hne0;have m0:=(cell_of_block hwb 0).trans p0;have m1:=(cell_of_block hwb 1).trans p1;have m2:=(cell_of_block hwb 2).trans p2;have m3:=(cell_of_block hwb 3).trans p3;clear hfz hown' hgrow hfresh hb9 hwn hwb)
    all_goals
     clear k0 k1 k2 k3 kn fn m0 m1 m2 m3 p0 p1 p2 p3 z0 z1 z2 z3 OF1 e1 c0 hwl hgl1 hne0 hlf1 hBs OW10 hi hz0 hz1 hz2 hxl hgg HVL HLF HVA HVK HVF H H1 HMB HNS HNE0 PB HBN;go_wp2_with fail;go_end0;exact⟨rfl,and_fin (HD.out _ (by first | exact .inl (by with_reducible rfl) | exact .inr (by with_reducible rfl)) (by simp only [q3h]) (by simp only [z9t]) (by simp only [z7r])) (fun q=>(Ap.of_below HAL.out).trans q)⟩
section
variable {w w2 : World} {B P : Nat} {K : Nat→Prop} {L : List Mk.Fo} {f f' : Mk.Fo} {O : List (Mk.Bs × List Mk.At)} {n : List UInt8} {a : List Mk.At} {vn vo : Value} {ns xo : List Value}
theorem q4u {size m nn cap g:Nat} {e:TypeId} {xs:List Value} (h:w.ownsRow B e size (.slice (some ⟨g,0,none⟩) nn cap) nn xs) (hm:m≤nn):w.ownsRow B e size (.slice (some ⟨g,0,none⟩) m cap) m (xs.take (m * size)):=by
 have hle:m * size≤nn * size:=Nat.mul_le_mul_right _ hm;refine⟨by rw[List.length_take,h.1];omega,?_⟩
 rcases h.2 with ⟨hv,_⟩ | ⟨g',cap',cur,hv,hb,hh,hnc,hcm,hcs,ht⟩
 ·cases hv
 ·injection hv with e1 e2 e3
  injection e1 with e1;injection e1 with e1;subst e1;subst e3;refine .inr ⟨g,cap,cur,rfl,hb,hh,by omega,hcm,hcs,?_⟩;rw[← ht,List.take_take,Nat.min_eq_left hle]
def KU (K:Nat→Prop) (v:Value) (b:Nat):Prop:=K b∨v.ownBlock=some b
theorem BldV.popped (h:BldV w B P K (L++[f',f]) (O++[(n,a)]) vn vo ns xo):∃ gn capn go capo aoa capa ao cap xsf ys,vn=.slice (some ⟨gn,0,none⟩) (L.length + 2) capn∧vo=.slice (some ⟨go,0,none⟩) (O.length + 1) capo∧L.length + 2≤capn∧O.length + 1≤capo ∧
  w.cell? ⟨go,O.length * 4,none⟩=some (.string (st n))∧w.cell? ⟨go,O.length * 4 + 1,none⟩=some (.slice aoa a.length capa)∧w.cell? ⟨go,O.length * 4 + 2,none⟩=some (.string (st []))∧w.cell? ⟨go,O.length * 4 + 3,none⟩=some (.slice none 0 0)∧w.cell? ⟨gn,L.length + 1,none⟩=some (.slice ao f.len cap)∧go ≠ P∧gn ≠ P∧go < w.heap.size∧gn < w.heap.size ∧
  ∀ w2:World,Blk w2 P 186 #[.slice (some ⟨gn,0,none⟩) (L.length + 1) capn,.slice (some ⟨go,0,none⟩) O.length capo]→(∀ b,b < w.heap.size→b ≠ P→w2.heap[b]? = w.heap[b]?)→w.heap.size≤w2.heap.size →
   BldV w2 B P (KU K (.slice ao f.len cap)) (L++[f']) O (.slice (some ⟨gn,0,none⟩) (L.length + 1) capn) (.slice (some ⟨go,0,none⟩) O.length capo) (ns.take (L.length + 1)) ys∧AtsV w2 (KU K (.slice ao f.len cap)) (.slice aoa a.length capa) a∧z19 w2 (KU K (.slice ao f.len cap)) ao xsf∧z07 w2 (KU K (.slice ao f.len cap)) f xsf∧f.len≤maxLen:=by
 have hnl:=h.nlen;have hrn:=h.rn;have hro:=h.ro;simp only [List.length_append,List.length_cons,List.length_nil] at hnl hrn hro;have e0:∀ g j,(⟨g,0,none⟩:Addr).add j=⟨g,j,none⟩:=by intro g j;unfold Addr.add;split <;> simp_all
 obtain⟨va,ys,hxo,hva,hoc⟩:=h.oc.last;obtain⟨aoa,capa,hva1,hva2⟩:=id hva;subst hva1;have hyl:=hoc.length
 rcases hrn.2 with ⟨_,q⟩ | ⟨gn,capn,curn,hvn,hbn,hhn,hncn,hcmn,hcsn,htn⟩
 ·omega
 rcases hro.2 with ⟨_,q⟩ | ⟨go,capo,curo,hvo,hbo,hho,hnco,hcmo,hcso,hto⟩
 ·omega
 have hvn:vn=.slice (some ⟨gn,0,none⟩) (L.length + 2) capn:=hvn;have hvo:vo=.slice (some ⟨go,0,none⟩) (O.length + 1) capo:=hvo;subst hvn;subst hvo;have kn:(Value.slice (some ⟨gn,0,none⟩) (L.length + 2) capn).ownBlock=some gn:=rfl;have ko:(Value.slice (some ⟨go,0,none⟩) (O.length + 1) capo).ownBlock=some go:=rfl;have hcn:=hrn.cells (g:=gn) rfl;have hco:=hro.cells (g:=go) rfl;have hi:L.length + 1 < ns.length:=by omega
 have hv1:ns[L.length + 1]? = some ns[L.length + 1]:=List.getElem?_eq_getElem hi;have hf1:(L++[f',f])[L.length + 1]? = some f:=by rw[List.getElem?_append_right (by omega)];simp
 obtain⟨xsf,hof⟩:=h.fo _ f _ hf1 hv1;obtain⟨ao,cap,hu⟩:=Z9 hof.own;rw[hu] at hv1 hof;have hfl:f.len≤maxLen:=by
  obtain⟨_,_,_,_,_,q⟩:=z19.of_own (K:=fun _=>True) hof.own (fun _ _=>trivial);exact q
 have hd:=h.df (L.length + 1) (.slice ao f.len cap);have ho:∀ i u,[Value.string (st n),.slice aoa a.length capa,.string (st []),.slice none 0 0][i]? = some u→w.cell? ⟨go,O.length * 4 + i,none⟩=some u:=by
  intro i u q;have:=hco (O.length * 4 + i) u (by rw[hxo,List.getElem?_append_right (by omega),hyl];simpa using q)
  rwa [e0] at this
 have hgnP:=(h.dn gn kn).1;have hgoP:=(h.do_ go ko).1;refine⟨gn,capn,go,capo,aoa,capa,ao,cap,xsf,ys,rfl,rfl,by omega,by omega,ho 0 _ rfl,ho 1 _ rfl,ho 2 _ rfl,ho 3 _ rfl,by have:=hcn _ _ hv1;rwa [e0] at this,hgoP,hgnP,(hro.lt go ko).2,(hrn.lt gn kn).2,?_⟩;intro w2 hP hb hs;have hKb:∀ b,K b→w2.heap[b]? = w.heap[b]?:=fun b q=>hb b (h.kle b q).2 (fun e=>h.nK (e ▸ q))
 have kp:∀ b,K b→KU K (.slice ao f.len cap) b∧w2.heap[b]? = w.heap[b]?:=fun b q=>⟨.inl q,hKb b q⟩
 have hvb:∀ g,(Value.slice ao f.len cap).ownBlock=some g→w2.heap[g]? = w.heap[g]?:=fun g e=>hb g (hof.own.lt g e).2 (hd g hv1 e).1
 have htk:∀ i:Nat,i < L.length + 1→(ns.take (L.length + 1))[i]? = ns[i]?:=fun i q=>by rw[List.getElem?_take];simp[q]
 have htk2:∀ (i:Nat) (v:Value),(ns.take (L.length + 1))[i]? = some v→i < L.length + 1∧ns[i]? = some v:=by
  intro i v q;rw[List.getElem?_take] at q
  split at q
  ·exact⟨by assumption,q⟩
  ·cases q
 refine⟨⟨hP,h.hP,?_,?_,?_,?_,?_,?_,?_,?_,?_⟩,hva.frame kp,?_,hof.cells.frame kp,hfl⟩
 ·rintro (q | q)
  ·exact h.nK q
  ·exact(hd P hv1 q).1 rfl
 ·rintro b (q | q)
  ·exact⟨(h.kle b q).1,Nat.lt_of_lt_of_le (h.kle b q).2 hs⟩
  ·exact⟨(hof.own.lt b q).1,Nat.lt_of_lt_of_le (hof.own.lt b q).2 hs⟩
 ·have:=q4u hrn (m:=L.length + 1) (by omega)
  rw[Nat.mul_one] at this;rw[List.length_append];exact V7 this (fun g e=>by injection e with e;rw[← e];exact hb gn (hrn.lt gn kn).2 hgnP)
 ·have:=q4u hro (m:=O.length) (by omega)
  rw[hxo,List.take_left' hyl] at this;exact V7 this (fun g e=>by injection e with e;rw[← e];exact hb go (hro.lt go ko).2 hgoP)
 ·exact hoc.frame kp
 ·intro i f1 v1 q1 q2
  obtain⟨hi1,q2⟩:=htk2 i v1 q2;have q3:(L++[f',f])[i]? = some f1:=by
   rw[show L++[f',f]=(L++[f'])++[f] by simp,List.getElem?_append_left (by simp;omega)];exact q1
  obtain⟨xs1,o⟩:=h.fo i f1 v1 q3 q2;have o1:=o.frame hs (fun b b1 b2=>by
   rcases b2 with b2 | b2
   ·exact hKb b b2
   ·exact hb b b1 (h.df i v1 b q2 b2).1)
  refine⟨xs1,o1.own,o1.cells.frame (fun b q=>⟨.inl q,rfl⟩),?_,?_⟩
  ·rintro g e (q | q)
   ·exact o1.ne g e q
   ·have:=(h.df i v1 g q2 e).2.2.2 _ _ hv1 q
    omega
  ·rintro b (q | q)
   ·exact o1.le b q
   ·exact Nat.lt_of_lt_of_le (hof.own.lt b q).2 hs
 ·intro g e
  have e:some gn=some g:=e;injection e with e;subst e;refine⟨hgnP,?_⟩;rintro (q | q)
  ·exact(h.dn gn kn).2 q
  ·exact(hd gn hv1 q).2.1 kn
 ·intro g e
  have e:some go=some g:=e;injection e with e;subst e;refine⟨hgoP,?_,fun q=>(h.do_ go ko).2.2 q⟩;rintro (q | q)
  ·exact(h.do_ go ko).2.1 q
  ·exact(hd go hv1 q).2.2.1 ko
 ·intro i v g q1 q2
  obtain⟨hi1,q1⟩:=htk2 i v q1;obtain⟨a1,a2,a3,a4⟩:=h.df i v g q1 q2;exact⟨a1,a2,a3,fun j u q3 q4=>a4 j u (htk2 j u q3).2 q4⟩
 ·obtain⟨ao',cap',hq,hr,_⟩:=z19.of_own (K:=fun b=>(Value.slice ao f.len cap).ownBlock=some b) hof.own (fun g e=>e)
  injection hq with hq _ _;subst hq;exact hr.frame fun b q=>⟨.inr q,hvb b q⟩
end
def BldS (w:World) (B P:Nat) (K:Nat→Prop) (b:Mk.Bld):Prop:=∃ vn vo ns xo,BldV w B P K b.fos b.ops vn vo ns xo
def BldR (B P:Nat) (K:Nat→Prop) (b:Mk.Bld) (w w':World):Prop:=∃ K',(∀ x,K x→K' x)∧BldS w' B P K' b∧Ap (fun x=>B≤x∧¬ K x) w w'
theorem BldR.step {B P:Nat} {K K':Nat→Prop} {b:Mk.Bld} {w w1 w2:World} (hK:∀ x,K x→K' x) (ha:Ap (fun x=>B≤x∧¬ K x) w w1) (h:BldR B P K' b w1 w2):BldR B P K b w w2:=by
 obtain⟨K2,h1,h2,h3⟩:=h;exact⟨K2,fun x q=>h1 x (hK x q),h2,ha.trans (h3.sub fun x q=>⟨q.1,fun e=>q.2 (hK x e)⟩)⟩
theorem BldR.of {B P:Nat} {K:Nat→Prop} {b:Mk.Bld} {w w1:World} (h:BldS w1 B P K b) (ha:Ap (fun x=>B≤x∧¬ K x) w w1):BldR B P K b w w1:=⟨K,fun _ q=>q,h,ha⟩
theorem BldS.below {B P:Nat} {K:Nat→Prop} {b:Mk.Bld} {w w1:World} (h:BldS w B P K b) (hb:Below w.heap.size w w1):BldS w1 B P K b:=by
 obtain⟨vn,vo,ns,xo,h⟩:=h;exact⟨_,_,_,_,h.below hb⟩
theorem z3s {w w':World} {g:Nat} (h:w'.heap[g]? = w.heap[g]?) (o:Nat):w'.frozen? ⟨g,o,none⟩=w.frozen? ⟨g,o,none⟩:=by
 simp[World.frozen?,h]
def q6o (w:World) (P:Nat):Nat:=match w.cell? ⟨P,1,none⟩ with | some (.slice _ n _)=>n | _=>0
theorem q5g {w:World} {B P:Nat} {K:Nat→Prop} (b:Mk.Bld) (h:BldS w B P K b) (many:Nat) (hmany:many≤1048576) (hbk:b.bulk≤549755813888) (hl:b.ops.length≤1048576) :
  Calls prog 130 #[.pointer (some ⟨P,0,none⟩),.int .i64 many] w fun e w'=>e=.returned (.tuple #[])∧BldR B P K (b.close many) w w':=by
 have hst:∀ l:List UInt8,(st l).toList=l:=fun l=>Lib.toList_data _
 have H:=Ld h;clear h;go_enter func130,ntmps130;go_wp2_with fail
 go_loopw [] (fun wr=>∃ c:Mk.Bld,Hid (BldR B P K c w wr∧c.close many=b.close many)∧c.bulk≤549755813888∧c.ops.length≤1048576) (fun wr=>q6o wr P)
 case atStart=>exact⟨b,⟨BldR.of H.out (Ap.refl _ _),rfl⟩,hbk,hl⟩
 case round =>
  obtain⟨c,HR,hcb,hcl⟩:=hrel;obtain⟨⟨K1,hK1,⟨vn,vo,ns,xo,hb⟩,hap⟩,hcl2⟩:=HR.out;clear HR
  by_cases hlt:many < c.ops.length
  ·obtain⟨O,⟨n,a⟩,hO⟩:∃ O o,c.ops=O++[o]:=by
    rcases List.eq_nil_or_concat c.ops with q | ⟨O,o,q⟩
    ·rw[q] at hlt;simp at hlt
    ·exact⟨O,o,by simpa using q⟩
   obtain⟨L,f',f,hL,hL2,hO2⟩:=c.q8k O n a hO;have hcn:c.close many=(c.pop).close many:=by
    show Mk.Bld.z4q _ c=Mk.Bld.z4q _ c.pop;have h1:=c.z5q;have h2:=c.pop.z5q;have h3:=c.q4w;rw[show c.open_.length - many=(c.pop.open_.length - many) + 1 by omega,Mk.Bld.j1l]
   have hpl:=c.q4w;have hpb:=c.q9v;have hfl:=c.q81;rw[hO,hL] at hfl;have hbb:f'.bulk + (1 + n.length + ([]:List UInt8).length + Mk.Fo.atB a + f.bulk)≤1099511627776:=by
    have:c.bulk=Mk.Bld.foB c.fos + Mk.Bld.opB c.ops:=rfl;rw[hL,hO,show L++[f',f]=L++[f']++[f] by simp,Mk.Bld.z5n,Mk.Bld.z5n,Mk.Bld.z4l,Mk.Bld.z4l,Mk.Bld.q8i,Mk.Bld.q8j] at this;simp only [List.length_nil];omega
   rw[hL,hO] at hb;obtain⟨gn,capn,go,capo,aoa,capa,ao,cap,xsf,ys,hvn,hvo,hcpn,hcpo,k0,k1,k2,k3,kn,hgoP,hgnP,hgol,hgnl,hpop⟩:=hb.popped;subst hvn;subst hvo;have hLO:L.length=O.length:=by simp at hfl;omega
   have hPl:=Blk.lt hb.blk;have c0:wr.cell? ⟨P,0,none⟩=some (.slice (some ⟨gn,0,none⟩) (L.length + 2) capn):=Blk.cell hb.blk 0;have c1:wr.cell? ⟨P,1,none⟩=some (.slice (some ⟨go,0,none⟩) (O.length + 1) capo):=Blk.cell hb.blk 1;have g0:wr.frozen? ⟨P,0,none⟩=false:=Blk.frozen hb.blk 0;have g1:wr.frozen? ⟨P,1,none⟩=false:=Blk.frozen hb.blk 1;have HPOP:=Ld hpop;have HB:=Ld hb;have HAP:=Ld hap;have hcl0:c.ops.length=O.length + 1:=by rw[hO];simp
   rw[hO] at hlt hcl;simp only [List.length_append,List.length_singleton] at hlt hcl;have hlt':(many:Int) < (O.length:Int) + 1:=by omega
   rw[hLO] at c0 kn;have HL2:=Ld hL2;have HO2:=Ld hO2;have HOW:Hid (q6o wr P=O.length + 1):=by
    show _=_;unfold q6o;rw[c1]
   clear hpop hb hap hfl hO hL hL2 hO2;go_upto_region 4 with fail;have PB:=Ld (Blk.new wr 53 #[.string (st n),.slice aoa a.length capa,.string (st []),.slice ao f.len cap]);have hAL:=(Below.refl wr.heap.size wr).alloc (Lr) (.cells #[.string (st n),.slice aoa a.length capa,.string (st []),.slice ao f.len cap] 53);have c0':=(hAL.cell (p:=⟨P,0,none⟩) hPl).trans c0;have c1':=(hAL.cell (p:=⟨P,1,none⟩) hPl).trans c1;have HAL:=Ld hAL;have g0':(wr.alloc (.cells #[.string (st n),.slice aoa a.length capa,.string (st []),.slice ao f.len cap] 53)).frozen? ⟨P,0,none⟩=false:=by rw[← g0];exact z3s (hAL.block P hPl) 0
   have g1':(wr.alloc (.cells #[.string (st n),.slice aoa a.length capa,.string (st []),.slice ao f.len cap] 53)).frozen? ⟨P,1,none⟩=false:=by rw[← g1];exact z3s (hAL.block P hPl) 1
   have PP:=Ld (show Blk (wr.alloc (.cells #[.string (st n),.slice aoa a.length capa,.string (st []),.slice ao f.len cap] 53)) P 186 _ from (hAL.block P hPl).trans HB.out.blk);clear c0 c1 g0 g1 k0 k1 k2 k3 kn hAL;have hs1:(O.length:Int)≤capo:=by omega
   have hs2:(O.length:Int) + 1≤capn:=by omega
   have hs3:(0:Int)≤(O.length:Int) + 1:=by omega
   generalize (wr.alloc (.cells #[.string (st n),.slice aoa a.length capa,.string (st []),.slice ao f.len cap] 53))=w1 at PB HAL c0' c1' g0' g1' PP ⊢
   go_region
   have hw2:∀ b,b ≠ P→((w1.setCell ⟨P,1,none⟩ (.slice (some ⟨go,0,none⟩) O.length capo)).setCell ⟨P,0,none⟩ (.slice (some ⟨gn,0,none⟩) (O.length + 1) capn)).drew.heap[b]? = w1.heap[b]?:=fun b q=>(Below.heap_setCell _ ⟨P,0,none⟩ _ b q).trans (Below.heap_setCell w1 ⟨P,1,none⟩ _ b q)
   have hB2:Blk ((w1.setCell ⟨P,1,none⟩ (.slice (some ⟨go,0,none⟩) O.length capo)).setCell ⟨P,0,none⟩ (.slice (some ⟨gn,0,none⟩) (O.length + 1) capn)).drew P 186 #[.slice (some ⟨gn,0,none⟩) (O.length + 1) capn,.slice (some ⟨go,0,none⟩) O.length capo]:=Blk.drew (Blk.set_ (Blk.set_ PP.out 1 _) 0 _);have hs2:w1.heap.size≤((w1.setCell ⟨P,1,none⟩ (.slice (some ⟨go,0,none⟩) O.length capo)).setCell ⟨P,0,none⟩ (.slice (some ⟨gn,0,none⟩) (O.length + 1) capn)).drew.heap.size:=by simp[World.setCell]
   have ha2:Ap (fun x=>B≤x∧¬ K1 x) w1 ((w1.setCell ⟨P,1,none⟩ (.slice (some ⟨go,0,none⟩) O.length capo)).setCell ⟨P,0,none⟩ (.slice (some ⟨gn,0,none⟩) (O.length + 1) capn)).drew:=(((Ap.refl _ w1).setCell (p:=⟨P,1,none⟩) ⟨HB.out.hP,HB.out.nK⟩ _).setCell (p:=⟨P,0,none⟩) ⟨HB.out.hP,HB.out.nK⟩ _).drew;have hPN:wr.heap.size ≠ P:=by omega
   have HPB2:=Ld (show Blk _ wr.heap.size 53 _ from (hw2 wr.heap.size hPN).trans PB.out);generalize ((w1.setCell ⟨P,1,none⟩ (.slice (some ⟨go,0,none⟩) O.length capo)).setCell ⟨P,0,none⟩ (.slice (some ⟨gn,0,none⟩) (O.length + 1) capn)).drew=w2 at hw2 hB2 hs2 ha2 HPB2 ⊢;rw[show O.length + 1=L.length + 1 by omega] at hB2;obtain⟨hb2,hva2,hra2,hfc2,hfl2⟩:=HPOP.out w2 hB2 (fun b q1 q2=>(hw2 b q2).trans (HAL.out.block b q1)) (Nat.le_trans HAL.out.size hs2);have HBULK:=Ld hbb;have hput:=tr_put hb2 n a [] f _ hva2 ao cap xsf hra2 hfc2 hfl2 hbb (by omega);have HPUT:=Ld hput;have p0:w2.cell? ⟨wr.heap.size,0,none⟩=some (.string (st n)):=Blk.cell HPB2.out 0;have p1:w2.cell? ⟨wr.heap.size,1,none⟩=some (.slice aoa a.length capa):=Blk.cell HPB2.out 1;have p2:w2.cell? ⟨wr.heap.size,2,none⟩=some (.string (st [])):=Blk.cell HPB2.out 2;have p3:w2.cell? ⟨wr.heap.size,3,none⟩=some (.slice ao f.len cap):=Blk.cell HPB2.out 3;have HA2:=Ld (((HAP.out.trans (Ap.of_below HAL.out)).trans (ha2.sub fun x q=>⟨q.1,fun e=>q.2 (hK1 x e)⟩)));clear hput hb2 hva2 hra2 hfc2 hfl2 hB2 hw2 ha2 hs2 c0' c1' g0' g1' PP PB HPOP hbb;go_wp2_with fail;refine HPUT.out.mono ?_;rintro e w3 ⟨rfl,⟨ns3,hb3⟩,ha3⟩;have HR3:Hid (BldR B P K c.pop w w3):=by
    have hbs:BldS w3 B P (KU K1 (.slice ao f.len cap)) c.pop:=by
     unfold BldS;rw[HL2.out,HO2.out];exact⟨_,_,_,_,hb3⟩
    exact⟨KU K1 (.slice ao f.len cap),fun x q=>.inl (hK1 x q),hbs,HA2.out.trans (ha3.sub fun x q=>⟨q.1,fun e=>q.2 (.inl (hK1 x e))⟩)⟩
   have HO3:Hid (q6o w3 P=O.length):=by
    show _=_;unfold q6o;rw[show w3.cell? ⟨P,1,none⟩=_ from Blk.cell hb3.blk 1];rfl
   clear hb3 ha3 HPUT p0 p1 p2 p3 HA2;go_wp2_with fail;go_roundw
   case rel=>exact⟨c.pop,⟨HR3.out,by rw[← hcn];exact hcl2⟩,by omega,by omega⟩
   case measure=>have h1:=HO3.out;have h2:=HOW.out;rw[h1,h2];omega
  ·obtain⟨aoo,capo,hvo⟩:=Z9 hb.ro
   subst hvo;have c1:wr.cell? ⟨P,1,none⟩=some (.slice aoo c.ops.length capo):=Blk.cell hb.blk 1;have hce:c.close many=c:=by
    show Mk.Bld.z4q _ c=c;have h1:=c.z5q;rw[show c.open_.length - many=0 by omega];rfl
   have HFIN:Hid (BldR B P K (b.close many) w wr):=⟨K1,hK1,⟨_,_,_,_,by rw[← hcl2,hce];exact hb⟩,hap⟩;clear hb hap hcl2 hce hK1;go_wp2_with fail;go_end0;exact⟨rfl,HFIN.out⟩
theorem Tryz.infoStr:(prog.info? 9).map (fun i=>(i.zero,i.size,i.bytes))=some (some (.string ⟨#[]⟩),1,16):=by kernel_rfl
theorem z0n.of_own {w:World} {K:Nat→Prop} {B:Nat} {e:TypeId} {v:Value} {l:List (List UInt8)} (h:w.ownsRow B e 1 v l.length (Y6 l)) (hK:∀ g,v.ownBlock=some g→K g):z0n w K v l:=by
 rcases h.2 with ⟨hv,hn⟩ | ⟨g,cap,cur,hv,_,hh,hnc,hcm,hcs,ht⟩
 ·have:l=[]:=List.eq_nil_of_length_eq_zero hn
  subst this;exact⟨none,0,hv,Lr,.inl rfl,Nat.zero_le _⟩
 ·obtain⟨ao,cap',h1,h2,h3,h4⟩:=z19.of_own h hK
  rw[hv] at h1;injection h1 with e1 e2 e3;subst e1;subst e3;exact⟨_,_,hv,hnc,h2,hcm⟩
theorem Y3 (names:List (List UInt8)) (prev:Bool) (n:List UInt8) (a:List Mk.At) (t:List UInt8) (k r:Mk.Fo):Mk.X3 (.node n a t k r) names prev=if Mk.z4h names n a t k ≠ 0 then Mk.z4h names n a t k else if n=[]∧prev=true then 4 else if Mk.X3 k (names++[n]) false ≠ 0 then Mk.X3 k (names++[n]) false else Mk.X3 r names (decide (n=[])):=rfl
end Go.Proofs.YtjonkbdldebkiaaGreatDoor
namespace Go.Proofs.YtjonkbdldebkiaaGreatDoor
open Go.RowKit
end Go.Proofs.YtjonkbdldebkiaaGreatDoor
