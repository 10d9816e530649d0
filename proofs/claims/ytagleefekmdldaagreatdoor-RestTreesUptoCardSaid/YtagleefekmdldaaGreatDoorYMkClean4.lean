/- Contract of the program's put of what is clean: nodes behind others. Condition: at most 1099511627776 nodes, attributes and letters together. -/
import Derived.Test.YtagleefekmdldaaGreatDoorYMkClean2
import Derived.Test.YtagleefekmdldaaGreatDoorYMkTok5
import Derived.RegionTactic
import Derived.Test.YtagleefekmdldaaGreatDoorYMkTree2
import Derived.ChangeAlike
import Derived.Deep.RegionHeld3
set_option linter.unusedVariables false
set_option linter.unusedSimpArgs false
set_option maxHeartbeats 8000000
set_option maxRecDepth 100000
namespace Go.Proofs.YtagleefekmdldaaGreatDoor
open Go.Proofs.Tryz Go.RowKit
theorem Tryz.infoNode:(prog.info? 38).map (fun i=>(i.zero,i.size,i.bytes))=some (some (.agg #[.string ⟨#[]⟩,.slice none 0 0,.string ⟨#[]⟩,.slice none 0 0]),4,80):=by kernel_rfl
section
variable {w w1 w2 : World} {B : Nat} {K : Nat→Prop} {v v' : Value} {f : Mk.Fo} {xs : List Value}
theorem OwnF.merged (h:OwnF w B K v f xs) {n:List UInt8} (a:List Mk.At) (t:List UInt8) (k:Mk.Fo) (hm:f.merges n=true) {g:Nat} (hg:v.ownBlock=some g):OwnF (w.setCell ⟨g,4 * (f.len - 1) + 2,none⟩ (.string (st (f.lastT++t)))) B K v (Mk.Fo.snoc n a t k f) (xs.set (4 * (f.len - 1) + 2) (.string (st (f.lastT++t)))):=by
 refine⟨?_,?_,h.ne,?_⟩
 ·rw[Mk.Fo.z6w f n a t k hm]
  exact z3t h.own hg _ _
 ·refine(Y0.merge f xs h.cells hm).frame fun b hb=>⟨hb,Below.heap_setCell w ⟨g,_,none⟩ _ b ?_⟩
  rintro rfl;exact h.ne _ hg hb
 ·intro b hb
  have:=h.le b hb
  simpa [World.setCell] using this
theorem OwnF.pushed (h:OwnF w B K v f xs) {n:List UInt8} {a:List Mk.At} {t:List UInt8} {k:Mk.Fo} {va:Value} {ao:Option Addr} {cap:Nat} {zs:List Value} (h2:AtsV w K va a) (h3:z1v w K ao zs) (h4:k.len≤maxLen) (h5:Y0 w K k zs) (hm:f.merges n=false) (h1:Below w.heap.size w w1)
  (hown:w2.ownsRow B 38 4 v' (f.len + 1) (xs++[.string (st n),va,.string (st t),.slice ao k.len cap])) (hgr:w1.grownBy w2 v.ownBlock) (hf:v'.ownBlock=v.ownBlock∨v'.ownBlock=some w1.heap.size) :
  OwnF w2 B K v' (Mk.Fo.snoc n a t k f) (xs++[.string (st n),va,.string (st t),.slice ao k.len cap]):=by
 have keep:∀ b,K b→K b∧w2.heap[b]? = w.heap[b]?:=fun b hb=>⟨hb,(hgr.block b (Nat.lt_of_lt_of_le (h.le b hb) h1.size) (fun e=>h.ne b e.symm hb)).trans (h1.block b (h.le b hb))⟩
 refine⟨by rw[Mk.Fo.z5d f n a t k hm];exact hown,(Y0.push h2 h3 h4 h5 f xs h.cells hm).frame keep,?_,fun b hb=>Nat.lt_of_lt_of_le (h.le b hb) (Nat.le_trans h1.size hgr.size)⟩;intro g hg
 rcases hf with e | e
 ·rw[e] at hg;exact h.ne g hg
 ·rw[e] at hg
  injection hg with hg;intro hb;have:=h.le g hb;have:=h1.size;omega
theorem OwnF.last (h:OwnF w B K v f xs) (hn:f ≠ .nil):∃ g cap,v=.slice (some ⟨g,0,none⟩) f.len cap∧w.cell? ⟨g,(f.len - 1) * 4,none⟩=some (.string (st f.z5m))∧w.cell? ⟨g,(f.len - 1) * 4 + 2,none⟩=some (.string (st f.lastT))∧(∀ i,w.frozen? ⟨g,i,none⟩=false):=by
 obtain⟨h1,h2⟩:=Y0.last_ f xs h.cells hn;have hl:=h.cells.length
 rcases h.own.2 with ⟨_,h0⟩ | ⟨g,cap,cur,hv,hb,hh,hnc,hcm,hcs,ht⟩
 ·exfalso
  cases f with
  | nil=>exact hn rfl
  | node _ _ _ _ _=>simp[Mk.Fo.len] at h0
 ·have hc:=h.own.cells (g:=g) (by rw[hv];rfl)
  have e0:∀ j,(⟨g,0,none⟩:Addr).add j=⟨g,j,none⟩:=by intro j;unfold Addr.add;split <;> simp_all
  have c1:=hc _ _ h1;have c2:=hc _ _ h2;rw[e0] at c1 c2;rw[Nat.mul_comm (f.len - 1) 4];exact⟨g,cap,hv,c1,c2,fun i=>by simp[World.frozen?,hh]⟩
end
def q1e (w:World) (v v':Value):Prop:=v'.ownBlock=v.ownBlock∨∃ b,v'.ownBlock=some b∧w.heap.size≤b
theorem cl_put (f g:Mk.Fo) (v vm:Value) (B:Nat) (K:Nat→Prop) (xs:List Value) (w:World) (hF:OwnF w B K v f xs) (hg:FoV w K vm g) (hB:B≤w.heap.size) (hl:f.bulk + g.bulk≤1099511627776) :
  Calls prog 94 #[v,vm] w fun e w'=>∃ v' xs',e=.returned v'∧OwnF w' B K v' (f.joins g) xs'∧Ap (fun b=>v.ownBlock=some b) w w'∧q1e w v v':=by
 obtain⟨gm,o,cap,hv1,hlen,hat⟩:=hg.at_
 have HAT:=Ld hat
 clear hat
 have hgl:=Mk.Fo.z0m g;have hst:∀ l:List UInt8,(st l).toList=l:=fun l=>Lib.toList_data _
 have HF:=Ld hF;have hvs:=Y1 hF.own
 rcases hv1 with ⟨hv1,hKg⟩ | ⟨ao,hv1,hnil⟩
 ·subst hv1
  clear hvs;have hKw:=Ld hF.le;clear hF;go_enter func94,ntmps94;go_wp2_with fail
  go_loopw [0,10] (fun u i wr=>∃ (k:Nat) (f':Mk.Fo) (xs':List Value),k≤g.len∧i=.int .i64 k∧f'.bulk + (g.drop k).bulk≤1099511627776∧Hid (f.joins g=f'.joins (g.drop k))∧Hid (OwnF wr B K u f' xs')∧Hid (Ap (fun b=>v.ownBlock=some b) w wr)∧Hid (q1e w v u)) (fun _ i _=>g.len - (intOf i).toNat)
  case atStart=>exact⟨0,f,xs,Nat.zero_le _,rfl,by rw[Mk.Fo.drop_zero];exact hl,by show _=_;rw[Mk.Fo.drop_zero],HF,Ap.refl _ _,.inl rfl⟩
  case round =>
   obtain⟨k,f',xs',hk,rfl,hbk,HJ,OF,AP,FR⟩:=hrel;have hsz:=AP.out.size
   by_cases hlt:k < g.len
   ·obtain⟨n,a,t,kk,r,hd,hd1⟩:=Mk.Fo.z1x g k hlt
    obtain⟨va,vk,c0,c1,c2,c3,hva,hvk⟩:=HAT.out k n a t kk r hd;have hgm:wr.heap[gm]? = w.heap[gm]?:=AP.out.block gm (hKw.out gm hKg) (fun e=>HF.out.ne gm e hKg);rw[← cell_of_block hgm] at c0 c1 c2 c3;obtain⟨aoa,capa,hva1,hva2⟩:=id hva;obtain⟨aok,capk,xsk,hvk1,hvk2,hvk3,hvk4⟩:=id hvk;subst hva1;subst hvk1;have keepK:∀ b,K b→K b∧wr.heap[b]? = w.heap[b]?:=fun b hb=>⟨hb,AP.out.block b (hKw.out b hb) (fun e=>HF.out.ne b e hb)⟩
    have HVA:=Ld (hva.frame keepK);have HVK:=Ld (hvk2.frame keepK);have HVF:=Ld (hvk3.frame keepK);have hdb:(g.drop k).bulk=1 + n.length + t.length + Mk.Fo.atB a + kk.bulk + r.bulk:=by rw[hd];rfl
    have HJ2:Hid (f.joins g=(Mk.Fo.snoc n a t kk f').joins (g.drop (k + 1))):=by show _=_;rw[HJ.out,hd,hd1];rfl
    have hbk2:(Mk.Fo.snoc n a t kk f').bulk + (g.drop (k + 1)).bulk≤1099511627776:=by
     have:=Mk.Fo.z4g f' n a t kk;rw[hd1];omega
    have hfl:=Mk.Fo.z0m f';have htl:=Mk.Fo.z6h f';have hal:=(Below.refl wr.heap.size wr).alloc (Lr) (.cells #[.string (st n),.slice aoa a.length capa,.string (st t),.slice aok kk.len capk] 38);have PB:=Ld (Blk.new wr 38 #[.string (st n),.slice aoa a.length capa,.string (st t),.slice aok kk.len capk]);have OF1:=Ld (OF.out.frame hal.size (fun b hb _=>hal.block b hb));have AP1:=Ld (AP.out.trans (Ap.of_below hal));have HAL:=Ld hal;obtain⟨ao0,cap0,hu0⟩:=Y1 OF.out.own;have hbn:n=[]∨n.isEmpty=false:=by
     cases n with
     | nil=>exact .inl rfl
     | cons _ _=>exact .inr rfl
    clear hal HAT hva hvk hvk2 hvk3 keepK HJ AP hd hd1 hgm;subst hu0;go_upto_region 5 with fail;generalize hw1:wr.alloc (.cells #[.string (st n),.slice aoa a.length capa,.string (st t),.slice aok kk.len capk] 38)=w1 at PB OF1 AP1 HAL ⊢;clear hw1 OF;have p0:w1.cell? ⟨wr.heap.size,0,none⟩=some (.string (st n)):=Blk.cell PB.out 0;have HBN:=Ld hbn;clear hbn c0 c1 c2 c3
    go_cut [31] (fun b wx=>b=.bool (f'.merges n)∧w1=wx)
    case first =>
     rcases HBN.out with hn | hn
     ·by_cases hf0:f'=.nil
      ·have HM:Hid (f'.merges n=false):=by show _=_;rw[hf0,Mk.Fo.z4d]
       have hl0:¬ 0 < f'.len:=by rw[hf0];simp[Mk.Fo.len]
       have HN:=Ld hn;have he:n.isEmpty=true:=by rw[hn];rfl
       clear hn hf0;go_wp2_with fail;go_meet
       case rel=>exact⟨by rw[HM.out],rfl⟩
      ·obtain⟨g0,capz,hz,d1,d2,df⟩:=OF1.out.last hf0
       injection hz with z1 z2 z3;subst z1;subst z3;have hl0:0 < f'.len:=z16 f' hf0;obtain⟨j,hj⟩:∃ j,j=f'.len - 1:=⟨_,rfl⟩;rw[← hj] at d1;have hj1:(f'.len:Int) - 1=j:=by omega
       have hj2:(j:Int) < f'.len:=by omega
       have hj3:(0:Int)≤j:=by omega
       have he:n.isEmpty=true:=by rw[hn];rfl
       have hbl:f'.z5m=[]∨f'.z5m.isEmpty=false:=by
        cases f'.z5m with
        | nil=>exact .inl rfl
        | cons _ _=>exact .inr rfl
       have HN:=Ld hn;have HF0:=Ld hf0;clear hj d2 df hn hf0
       rcases hbl with h1 | h1
       ·have HM:Hid (f'.merges n=true):=(Mk.Fo.Y5 _ _).2 ⟨HN.out,HF0.out,h1⟩
        have he1:f'.z5m.isEmpty=true:=by rw[h1];rfl
        clear h1;go_wp2_with fail;go_meet
        case rel=>exact⟨by rw[HM.out],rfl⟩
       ·have HM:Hid (f'.merges n=false):=by
         show _=_;rw[Bool.eq_false_iff];intro q;rw[((Mk.Fo.Y5 _ _).1 q).2.2] at h1;cases h1
        go_wp2_with fail;go_meet
        case rel=>exact⟨by rw[HM.out],rfl⟩
     ·have HM:Hid (f'.merges n=false):=by
       show _=_;rw[Bool.eq_false_iff];intro q;rw[((Mk.Fo.Y5 _ _).1 q).1] at hn;cases hn
      go_wp2_with fail;go_meet
      case rel=>exact⟨by rw[HM.out],rfl⟩
    case rest =>
     obtain⟨rfl,hw⟩:=hcut;subst hw;obtain⟨mb,hmb⟩:∃ mb,f'.merges n=mb:=⟨_,rfl⟩;rw[hmb];have HMB:=Ld hmb;clear hmb
     cases mb with
     | true =>
      have hq:=(Mk.Fo.Y5 _ _).1 HMB.out;obtain⟨g0,capz,hz,d1,d2,df⟩:=OF1.out.last hq.2.1;injection hz with z1 z2 z3;subst z1;subst z3;have hl0:0 < f'.len:=z16 f' hq.2.1;have OFM:=Ld (OF1.out.merged a t kk HMB.out (g:=g0) rfl);obtain⟨j,hj⟩:∃ j,j=f'.len - 1:=⟨_,rfl⟩;rw[← hj] at d1 d2 OFM;have hj1:(f'.len:Int) - 1=j:=by omega
      have hj2:(j:Int) < f'.len:=by omega
      have hj3:(0:Int)≤j:=by omega
      have p2:w1.cell? ⟨wr.heap.size,2,none⟩=some (.string (st t)):=Blk.cell PB.out 2;have df2:=df (j * 4 + 2);have q1:¬ 9223372036854775807 < (st f'.lastT).size + (st t).size:=by rw[y9,y9];omega
      have hown:∀ b,(Value.slice (some ⟨g0,0,none⟩) f'.len cap0).ownBlock=some b→b=g0:=fun b e=>by injection e with e;exact e.symm
      have HOB:=Ld hown;clear hj hq df hown;go_wp2_with fail
      go_region
      have AP2:Hid (Ap (fun b=>v.ownBlock=some b) w (w1.setCell ⟨g0,j * 4 + 2,none⟩ (.string (st (f'.lastT++t))))):=by
       rcases FR.out with e | ⟨b,e,hb⟩
       ·exact AP1.out.setCell (p:=⟨g0,j * 4 + 2,none⟩) (by rw[← e];rfl) _
       ·have e:some g0=some b:=e
        injection e with e;exact AP1.out.setNew (p:=⟨g0,j * 4 + 2,none⟩) (by rw[e];exact hb) _
      have OFM2:Hid (OwnF (w1.setCell ⟨g0,j * 4 + 2,none⟩ (.string (st (f'.lastT++t)))) B K (.slice (some ⟨g0,0,none⟩) f'.len cap0) (Mk.Fo.snoc n a t kk f') (xs'.set (4 * j + 2) (.string (st (f'.lastT++t))))):=by
       have:=OFM.out;rw[Nat.mul_comm 4 j] at this;rw[Nat.mul_comm 4 j];exact this
      all_goals
       rw[show st f'.lastT++st t=st (f'.lastT++t) from z19 (st f'.lastT) (st t)];have OFM3:=Ld (OFM2.out.frame (w':=(w1.setCell ⟨g0,j * 4 + 2,none⟩ (.string (st (f'.lastT++t)))).drew) (Lr) (fun _ _ _=>rfl));have AP3:=Ld (AP2.out.drew);clear OFM OFM2 AP2 OF1 AP1 d1 d2 p2 df2;go_wp2_with fail;go_roundw
       case rel=>exact⟨k + 1,_,_,by omega,by go_num,hbk2,HJ2,OFM3,AP3,FR⟩
       case measure=>simp[intOf];omega
     | false =>
      have p1:w1.cell? ⟨wr.heap.size,1,none⟩=some (.slice aoa a.length capa):=Blk.cell PB.out 1;have p2:w1.cell? ⟨wr.heap.size,2,none⟩=some (.string (st t)):=Blk.cell PB.out 2;have p3:w1.cell? ⟨wr.heap.size,3,none⟩=some (.slice aok kk.len capk):=Blk.cell PB.out 3;obtain⟨i0,hi,hz0,hz1,hz2⟩:=info_parts Tryz.infoNode;have ow10:=X8 OF1.out.own ((Ap.refl (fun _=>False) w1).alloc (.cells #[.string (st n),.slice aoa a.length capa,.string (st t),.slice aok kk.len capk] 38)) (fun _ _ q=>q);have hal2:=(Below.refl w1.heap.size w1).alloc (Lr) (.cells #[.string (st n),.slice aoa a.length capa,.string (st t),.slice aok kk.len capk] 38);have hBs:B≤w1.heap.size:=Nat.le_trans hB AP1.out.size;have hlf:f'.len≤1099511627776:=by omega
      go_wp2_with (at_builtin;refine Q9 rfl _ _ 22 rfl B 38 i0 (.agg #[.string ⟨#[]⟩,.slice none 0 0,.string ⟨#[]⟩,.slice none 0 0]) 4 80 underlying22 hi hz0 hz1 hz2 rfl (by decide) _ _ _ rfl ow10 ⟨w1.heap.size,0,none⟩ 1 1 [.string (st n),.slice aoa a.length capa,.string (st t),.slice aok kk.len capk] rfl rfl (Y9 _ _ _) (by intro u hu;simp at hu;rcases hu with rfl | rfl | rfl | rfl <;> rfl) (by decide) (by unfold maxLen;omega) (by omega) (by simp;omega) ?_);intro v' w2 hown' hgrow hfresh;have hfr2:v'.ownBlock=(Value.slice ao0 f'.len cap0).ownBlock∨v'.ownBlock=some (w1.alloc (.cells #[.string (st n),.slice aoa a.length capa,.string (st t),.slice aok kk.len capk] 38)).heap.size:=hfresh.imp id (fun e=>by rw[e];simp);have kp:∀ b,K b→K b∧w1.heap[b]? = wr.heap[b]?:=fun b hb=>⟨hb,HAL.out.block b (Nat.lt_of_lt_of_le (hKw.out b hb) hsz)⟩
      have OFP:=Ld (OF1.out.pushed (HVA.out.frame kp) (HVK.out.frame kp) hvk4 (HVF.out.frame kp) HMB.out hal2 hown' hgrow hfr2);have APP:Hid (Ap (fun b=>v.ownBlock=some b) w w2):=by
       refine(AP1.out.alloc (.cells #[.string (st n),.slice aoa a.length capa,.string (st t),.slice aok kk.len capk] 38)).grown hgrow (fun b hb e=>?_)
       rcases FR.out with q | ⟨b',q,hb'⟩
       ·rw[← q];exact e
       ·rw[q] at e;injection e with e;omega
      have FRP:Hid (q1e w v v'):=by
       rcases hfr2 with e | e
       ·rcases FR.out with q | ⟨b',q,hb'⟩
        ·exact .inl (e.trans q)
        ·exact .inr ⟨b',e.trans q,hb'⟩
       ·exact .inr ⟨_,e,by have:=AP1.out.size;simp;omega⟩
      clear hown' hgrow hfresh hfr2 kp ow10 hal2 OF1 AP1 p0 p1 p2 p3 HVA HVK HVF;go_wp2_with fail;go_roundw
      case rel=>exact⟨k + 1,_,_,by omega,by go_num,hbk2,HJ2,OFP,APP,FRP⟩
      case measure=>simp[intOf];omega
   ·have hke:k=g.len:=by omega
    rw[hke,Mk.Fo.z2v] at HJ;have HJ2:Hid (f.joins g=f'):=HJ;clear HJ HAT;go_wp2_with fail;go_ret;exact⟨_,_,rfl,by rw[HJ2.out];exact OF.out,AP.out,FR.out⟩
 ·subst hnil
  subst hv1;obtain⟨ao0,cap0,hu0⟩:=hvs;subst hu0;clear HAT;go_enter func94,ntmps94;go_wp2_with fail
  go_loopw [0,10] (fun u i wr=>u=.slice ao0 f.len cap0∧i=.int .i64 0∧wr=w) (fun _ _ _=>0)
  case atStart=>exact⟨rfl,rfl,rfl⟩
  case round =>
   obtain⟨rfl,rfl,rfl⟩:=hrel;go_wp2_with fail;go_ret;exact⟨_,_,rfl,HF.out,Ap.refl _ _,.inl rfl⟩
end Go.Proofs.YtagleefekmdldaaGreatDoor
namespace Mk
def z08 (base n:Bs) (a:List At) (t:Bs) (k:Fo):Fo :=
 if n=[] then .node n a t k .nil
 else if q5s n then .nil
 else if !z0u n then Y3 base .nil k
 else if n=[105,109,103]∧z1d (Q5 base n a) [115,114,99]=false then .nil
 else .node n (Q5 base n a) [] (Y3 base .nil k) .nil
theorem z9a (base:Bs) (out:Fo) (n:Bs) (a:List At) (t:Bs) (k r:Fo):Y3 base out (.node n a t k r)=Y3 base (out.joins (z08 base n a t k)) r:=by
 rw[Y3]
 congr 1
 unfold z08
 split
 ·rfl
 split
 ·rfl
 simp only
 split
 ·rfl
 split
 ·rfl
 ·rfl
theorem j0e (l m:List At):Fo.atB (l++m)=Fo.atB l + Fo.atB m:=by simp[Fo.atB]
theorem z7o (base e:Bs) (l:List At):Fo.atB (Q5 base e l)≤3001 * Fo.atB l:=by
 induction l with
 | nil=>exact Nat.zero_le _
 | cons a t ih =>
  have h:Fo.atB (z2m base e a)≤3001 * (1 + a.n.length + a.v.length):=by
   unfold z2m
   split
   ·exact Nat.zero_le _
   split
   ·split
    ·rename_i hg
     have:(light base a.v).length≤3000:=by
      unfold z07 at hg;rw[Bool.and_eq_true] at hg;exact of_decide_eq_true hg.2
     show 1 + a.n.length + (light base a.v).length + 0≤_;omega
    ·exact Nat.zero_le _
   ·show 1 + a.n.length + a.v.length + 0≤_
    omega
  show Fo.atB (z2m base e a++Q5 base e t)≤3001 * (1 + a.n.length + a.v.length + Fo.atB t);rw[j0e];omega
theorem q5k (base:Bs):∀ (f out:Fo),Fo.bulk (Y3 base out f)≤Fo.bulk out + 3001 * Fo.bulk f∧True:=by
 intro f
 induction f with
 | nil=>intro out;exact⟨by show Fo.bulk out≤Fo.bulk out + 3001 * 0;omega,trivial⟩
 | node n a t k r ihk ihr =>
  intro out;refine⟨?_,trivial⟩;rw[z9a];have h1:=(ihr (out.joins (z08 base n a t k))).1;have h2:=Fo.z8n (z08 base n a t k) out;have hk:=(ihk .nil).1;have ha:=z7o base n a;have hk0:Fo.bulk .nil=0:=rfl;have h3:Fo.bulk (z08 base n a t k)≤3001 * (1 + n.length + t.length + Fo.atB a + Fo.bulk k):=by
   unfold z08
   split
   ·show 1 + n.length + t.length + Fo.atB a + Fo.bulk k + 0≤_
    omega
   split
   ·exact Nat.zero_le _
   split
   ·omega
   split
   ·exact Nat.zero_le _
   ·show 1 + n.length + 0 + Fo.atB (Q5 base n a) + Fo.bulk (Y3 base .nil k) + 0≤_
    omega
  show _≤Fo.bulk out + 3001 * (1 + n.length + t.length + Fo.atB a + Fo.bulk k + Fo.bulk r);omega
def Bare:Fo→Prop
 | .nil=>True
 | .node n a _ k r=>(n=[]→a=[]∧k=.nil)∧Bare k∧Bare r
theorem Bare.drop:∀ {f:Fo} (k:Nat),Bare f→Bare (f.drop k)
 | .nil,0,h=>h
 | .nil,k + 1,h=>h
 | .node _ _ _ _ _,0,h=>h
 | .node _ _ _ _ r,k + 1,h=>Bare.drop (f:=r) k h.2.2
end Mk
namespace Go.Proofs.YtagleefekmdldaaGreatDoor
open Go.Proofs.Tryz Go.RowKit
def Kn (K:Nat→Prop) (w w':World) (b:Nat):Prop:=K b∨(w.heap.size≤b∧b < w'.heap.size)
def NodesC (base:List UInt8) (C:Nat) (f:Mk.Fo):Prop:=∀ (v:Value) (K K0:Nat→Prop) (w:World),FoV w K v f→(∀ b,K b→b < w.heap.size)→(∀ b,K0 b→b < w.heap.size)→(Mk.Bare f∨∀ b,K b→K0 b)→C < w.heap.size→w.cell? ⟨C,0,none⟩=some (.string (st base)) →
 Calls prog 61 #[.pointer (some ⟨C,0,none⟩),v] w fun e w'=>∃ v',e=.returned v'∧FoV w' (Kn K0 w w') v' (Mk.Y3 base .nil f)∧Below w.heap.size w w'
theorem FoV.nil' (w:World) (K:Nat→Prop) (ao:Option Addr) (c:Nat):FoV w K (.slice ao (Mk.Fo.nil).len c) .nil:=⟨ao,c,[],rfl,.inl rfl,rfl,Nat.zero_le _⟩
theorem FoV.one {w:World} {K:Nat→Prop} {n:List UInt8} {a:List Mk.At} {t:List UInt8} {k:Mk.Fo} {va:Value} {ao:Option Addr} {cap:Nat} {g:Nat} {T:TypeId} (hb:Blk w g T #[.string (st n),va,.string (st t),.slice ao k.len cap]) (hg:K g) (hva:AtsV w K va a) (hvk:FoV w K (.slice ao k.len cap) k) (c:Nat):FoV w K (.slice (some ⟨g,0,none⟩) 1 c) (.node n a t k .nil):=by
 obtain⟨ao',cap',xs,h1,h2,h3,h4⟩:=hvk;injection h1 with e1 e2 e3;subst e1;subst e3;refine⟨some ⟨g,0,none⟩,c,[.string (st n),va,.string (st t),.slice ao k.len cap],rfl,.inr ⟨g,0,rfl,hg,?_,fun i _=>Blk.frozen hb _⟩,⟨va,ao,cap,xs,[],rfl,hva,h2,h4,h3,rfl⟩,by show 1≤maxLen;unfold maxLen;omega⟩;intro i v hi;rw[Nat.zero_add,Blk.cell hb i,← hi];simp
theorem Kn.le {K:Nat→Prop} {w w':World} (hK:∀ b,K b→b < w.heap.size) (hs:w.heap.size≤w'.heap.size):∀ b,Kn K w w' b→b < w'.heap.size:=by
 rintro b (h | h)
 ·exact Nat.lt_of_lt_of_le (hK b h) hs
 ·exact h.2
theorem Kn.up {K:Nat→Prop} {w w3 wF:World} (hK:∀ b,K b→b < w.heap.size) (hs:w.heap.size≤w3.heap.size) (hb:Below w3.heap.size w3 wF):∀ b,Kn K w w3 b→Kn K w wF b∧wF.heap[b]? = w3.heap[b]?:=by
 rintro b (h | h)
 ·exact⟨.inl h,hb.block b (Nat.lt_of_lt_of_le (hK b h) hs)⟩
 ·exact⟨.inr ⟨h.1,Nat.lt_of_lt_of_le h.2 hb.size⟩,hb.block b h.2⟩
theorem cl_node (base n t:List UInt8) (a:List Mk.At) (k:Mk.Fo) (hkids:∀ C,NodesC base C k) (hbk:n.length + Mk.Fo.atB a≤33554432) (C:Nat) (va vk:Value) (K K0:Nat→Prop) (w:World) (hva:AtsV w K va a) (hvk:FoV w K vk k) (hK:∀ b,K b→b < w.heap.size) (hK0:∀ b,K0 b→b < w.heap.size) (hB:((n=[]→a=[]∧k=.nil)∧Mk.Bare k)∨∀ b,K b→K0 b) (hC:C < w.heap.size) (hCc:w.cell? ⟨C,0,none⟩=some (.string (st base))) :
  Calls prog 95 #[.pointer (some ⟨C,0,none⟩),z0d n va t vk] w fun e w'=>∃ v',e=.returned v'∧FoV w' (Kn K0 w w') v' (Mk.z08 base n a t k)∧Below w.heap.size w w':=by
 have hst:∀ l:List UInt8,(st l).toList=l:=fun l=>Lib.toList_data _
 obtain⟨aoa,capa,hva1,hva2⟩:=id hva;obtain⟨aok,capk,xsk,hvk1,hvk2⟩:=id hvk;subst hva1;subst hvk1;have hal:=(Below.refl w.heap.size w).alloc (Lr) (.cells #[.string (st n),.slice aoa a.length capa,.string (st t),.slice aok k.len capk] 38);have NB:=Ld (Blk.new w 38 #[.string (st n),.slice aoa a.length capa,.string (st t),.slice aok k.len capk]);have AL:=Ld hal;have hne:Mk.z08 base n a t k=(if n=[] then .node n a t k .nil else if Mk.q5s n then .nil else if !Mk.z0u n then Mk.Y3 base .nil k else if n=[105,109,103]∧Mk.z1d (Mk.Q5 base n a) [115,114,99]=false then .nil else .node n (Mk.Q5 base n a) [] (Mk.Y3 base .nil k) .nil):=rfl;have HNE:=Ld hne;have HVA:=Ld hva;have HVK:=Ld hvk;clear hal hne hvk2 hva2 hva hvk;unfold z0d
 by_cases hn:n=[]
 ·have he:n.isEmpty=true:=by rw[hn];rfl
  obtain⟨hva0,hvk0⟩:AtsV w K0 (.slice aoa a.length capa) a∧FoV w K0 (.slice aok k.len capk) k:=by
   rcases hB with ⟨h1,_⟩ | h1
   ·obtain⟨rfl,rfl⟩:=h1 hn
    exact⟨AtsV.nil' _ _ _ _,FoV.nil' _ _ _ _⟩
   ·exact⟨HVA.out.frame fun b q=>⟨h1 b q,rfl⟩,HVK.out.frame fun b q=>⟨h1 b q,rfl⟩⟩
  have HV0:=Ld (And.intro hva0 hvk0);have HN:Hid (Mk.z08 base n a t k=.node n a t k .nil):=by show _=_;rw[HNE.out,if_pos hn]
  clear hva0 hvk0;clear hn HNE;go_enter func95,ntmps95;go_wp2_with fail;go_ret;have hb2:=AL.out.alloc AL.out.size (.cells #[.string (st n),.slice aoa a.length capa,.string (st t),.slice aok k.len capk] 38);refine⟨_,rfl,?_,hb2⟩;rw[HN.out];have kp:∀ b,K0 b→Kn K0 w ((w.alloc (.cells #[.string (st n),.slice aoa a.length capa,.string (st t),.slice aok k.len capk] 38)).alloc (.cells #[.string (st n),.slice aoa a.length capa,.string (st t),.slice aok k.len capk] 38)) b∧((w.alloc (.cells #[.string (st n),.slice aoa a.length capa,.string (st t),.slice aok k.len capk] 38)).alloc (.cells #[.string (st n),.slice aoa a.length capa,.string (st t),.slice aok k.len capk] 38)).heap[b]? = w.heap[b]?:=fun b hb=>⟨.inl hb,hb2.block b (hK0 b hb)⟩
  have q:=FoV.one (Blk.new (w.alloc (.cells #[.string (st n),.slice aoa a.length capa,.string (st t),.slice aok k.len capk] 38)) 38 #[.string (st n),.slice aoa a.length capa,.string (st t),.slice aok k.len capk]) (K:=Kn K0 w ((w.alloc (.cells #[.string (st n),.slice aoa a.length capa,.string (st t),.slice aok k.len capk] 38)).alloc (.cells #[.string (st n),.slice aoa a.length capa,.string (st t),.slice aok k.len capk] 38))) (.inr ⟨by simp,by simp⟩) (HV0.out.1.frame kp) (HV0.out.2.frame kp) 1;rw[World.size_alloc] at q;exact q
 ·have he:n.isEmpty=false:=by
   cases n with
   | nil=>exact absurd rfl hn
   | cons _ _=>rfl
  have HNE2:Hid (Mk.z08 base n a t k=if Mk.q5s n then .nil else if !Mk.z0u n then Mk.Y3 base .nil k else if n=[105,109,103]∧Mk.z1d (Mk.Q5 base n a) [115,114,99]=false then .nil else .node n (Mk.Q5 base n a) [] (Mk.Y3 base .nil k) .nil):=by show _=_;rw[HNE.out,if_neg hn]
  clear HNE;have hgo:=fun W=>cl_gone n W
  have hlw:=fun W=>q2o n W
  obtain⟨bg,hbg⟩:∃ b,Mk.q5s n=b:=⟨_,rfl⟩;obtain⟨ba,hba⟩:∃ b,Mk.z0u n=b:=⟨_,rfl⟩;rw[hbg] at hgo HNE2;rw[hba] at hlw HNE2;have HGO:=Ld hgo;have HLW:=Ld hlw;clear hgo hlw hbg hba
  cases bg with
  | true =>
   have HN:Hid (Mk.z08 base n a t k=.nil):=by show _=_;rw[HNE2.out];rfl
   clear HNE2;go_enter func95,ntmps95;go_wp2_with fail;refine(HGO.out _).mono ?_;rintro e w1 ⟨rfl,hw1⟩;subst hw1;go_wp2_with fail;go_ret;exact⟨_,rfl,by rw[HN.out];exact⟨none,0,[],rfl,.inl rfl,rfl,Nat.zero_le _⟩,AL.out⟩
  | false =>
   have HNE3:Hid (Mk.z08 base n a t k=if !ba then Mk.Y3 base .nil k else if n=[105,109,103]∧Mk.z1d (Mk.Q5 base n a) [115,114,99]=false then .nil else .node n (Mk.Q5 base n a) [] (Mk.Y3 base .nil k) .nil):=by show _=_;rw[HNE2.out];rfl
   clear HNE2;have HKD:=Ld (hkids C (.slice aok k.len capk) K K0 (w.alloc (.cells #[.string (st n),.slice aoa a.length capa,.string (st t),.slice aok k.len capk] 38)) (HVK.out.below hK AL.out) (fun b hb=>Nat.lt_of_lt_of_le (hK b hb) AL.out.size) (fun b hb=>Nat.lt_of_lt_of_le (hK0 b hb) AL.out.size) (hB.imp And.right id) (Nat.lt_of_lt_of_le hC AL.out.size) ((AL.out.cell (p:=⟨C,0,none⟩) hC).trans hCc));go_enter func95,ntmps95;go_wp2_with fail;refine(HGO.out _).mono ?_;rintro e w1 ⟨rfl,hw1⟩;subst hw1;generalize hw1:w.alloc (.cells #[.string (st n),.slice aoa a.length capa,.string (st t),.slice aok k.len capk] 38)=w1 at NB AL HKD ⊢;clear hw1;have q3:w1.cell? ⟨w.heap.size,3,none⟩=some (.slice aok k.len capk):=Blk.cell NB.out 3;clear HGO;go_wp2_with fail;refine HKD.out.mono ?_;rintro e w2 ⟨vk2,rfl,hfk,hb2⟩;have L2:=Ld (AL.out.trans (hb2.mono AL.out.size));have hs12:=hb2.size;have NB2:=Ld (Blk.below NB.out hb2 (Blk.lt NB.out));have FK2:=Ld hfk;have p0:w2.cell? ⟨w.heap.size,0,none⟩=some (.string (st n)):=Blk.cell NB2.out 0;clear HKD hb2 hfk q3;go_wp2_with fail;refine(HLW.out _).mono ?_;rintro e w3 ⟨rfl,hb3⟩;have L3:=Ld (L2.out.trans (hb3.mono L2.out.size));have NB3:=Ld (Blk.below NB2.out hb3 (Blk.lt NB2.out));have FK3:Hid (FoV w3 (Kn K0 w w3) vk2 (Mk.Y3 base .nil k)):=by
    have hA:=AL.out.size;refine FK2.out.frame (fun b hb=>?_)
    rcases hb with h | h
    ·exact⟨.inl h,hb3.block b (Nat.lt_of_lt_of_le (hK0 b h) (Nat.le_trans hA hs12))⟩
    ·exact⟨.inr ⟨Nat.le_trans hA h.1,Nat.lt_of_lt_of_le h.2 hb3.size⟩,hb3.block b h.2⟩
   clear HLW hb3 FK2 p0 NB2 L2
   cases ba with
   | false =>
    have HN:Hid (Mk.z08 base n a t k=Mk.Y3 base .nil k):=by show _=_;rw[HNE3.out];rfl
    clear HNE3;go_wp2_with fail;go_ret;exact⟨_,rfl,by rw[HN.out];exact FK3.out,L3.out⟩
   | true =>
    have HNE4:Hid (Mk.z08 base n a t k=if n=[105,109,103]∧Mk.z1d (Mk.Q5 base n a) [115,114,99]=false then .nil else .node n (Mk.Q5 base n a) [] (Mk.Y3 base .nil k) .nil):=by show _=_;rw[HNE3.out];rfl
    clear HNE3;go_upto_region 8 with fail;obtain⟨ao2,cap2,xs2,hv2,_⟩:=id FK3.out;subst hv2;have hwz:w.heap.size < w3.heap.size:=Blk.lt NB3.out;have hs03:=L3.out.size;have hfr:∀ W,Below w3.heap.size w3 W→W.cell? ⟨w.heap.size,0,none⟩=some (.string (st n))∧W.cell? ⟨w.heap.size,1,none⟩=some (.slice aoa a.length capa)∧W.cell? ⟨w.heap.size,2,none⟩=some (.string (st t))∧W.cell? ⟨w.heap.size,3,none⟩=some (.slice aok k.len capk):=fun W hW=>⟨(hW.cell (p:=⟨w.heap.size,0,none⟩) hwz).trans (Blk.cell NB3.out 0),(hW.cell (p:=⟨w.heap.size,1,none⟩) hwz).trans (Blk.cell NB3.out 1),(hW.cell (p:=⟨w.heap.size,2,none⟩) hwz).trans (Blk.cell NB3.out 2),(hW.cell (p:=⟨w.heap.size,3,none⟩) hwz).trans (Blk.cell NB3.out 3)⟩
    have HFR:=Ld hfr;have hac:∀ W,Below w3.heap.size w3 W→Calls prog 125 #[.pointer (some ⟨C,0,none⟩),.agg #[.string (st n),.slice aoa a.length capa,.string (st t),.slice aok k.len capk]] W fun e w'=>∃ v,e=.returned v∧w'.ownsRow W.heap.size 73 2 v (Mk.Q5 base n a).length (Z5 (Mk.Q5 base n a))∧Below W.heap.size W w':=fun W hW=>by
     have h0:=L3.out.trans (hW.mono hs03);exact cl_attrs base n t a (.slice aoa a.length capa) (.slice aok k.len capk) k.len capk aok rfl C K W (Nat.lt_of_lt_of_le hC h0.size) ((h0.cell (p:=⟨C,0,none⟩) hC).trans hCc) (HVA.out.below hK h0) (fun b hb=>Nat.lt_of_lt_of_le (hK b hb) h0.size) (by omega)
    have HAC:=Ld hac;generalize hla:Mk.Q5 base n a=la at HNE4 HAC;have HLL:=Ld (show la.length≤33554432 from by have h1:=q0u base n a;have h2:=Mk.z1l a;rw[hla] at h1;omega);clear hfr hac hla
    go_cut [6] (fun p wx=>∃ P ao7 cap7,p=.pointer (some ⟨P,0,none⟩)∧Hid (Below w.heap.size w wx)∧Hid (Blk wx P 38 #[.string (st n),.slice ao7 la.length cap7,.string ⟨#[]⟩,.slice ao2 (Mk.Y3 base .nil k).len cap2])∧Hid (AtsV wx (Kn K0 w wx) (.slice ao7 la.length cap7) la)∧Hid (FoV wx (Kn K0 w wx) (.slice ao2 (Mk.Y3 base .nil k).len cap2) (Mk.Y3 base .nil k)))
    case first =>
     go_region_held3 (fun w'=>w'.cell? ⟨w.heap.size,0,none⟩=some (.string (st n))∧w'.cell? ⟨w.heap.size,1,none⟩=some (.slice aoa a.length capa)∧w'.cell? ⟨w.heap.size,2,none⟩=some (.string (st t))∧w'.cell? ⟨w.heap.size,3,none⟩=some (.slice aok k.len capk)) (first
      | exact HFR.out _ hB7
      | exact HFR.out _ (hB7.alloc hB7.size _)
      | exact HFR.out _ ((Below.refl _ _).drew)
      | exact HFR.out _ (((Below.refl _ _).drew).alloc (Lr) _)
      | exact HFR.out _ ((((hB7.setCell (p:=⟨w3.heap.size,0,none⟩) (Lr) _).setCell (p:=⟨w3.heap.size,1,none⟩) (Lr) _).setCell (p:=⟨w3.heap.size,2,none⟩) (Lr) _).setCell (p:=⟨w3.heap.size,3,none⟩) (Lr) _)) (first | (go_at_call 125;refine(HAC.out _ ?_).mono ?_;(first | exact(Below.refl _ _).drew | exact((Below.refl _ _).drew).alloc (Lr) _);rintro e w7 ⟨v7,rfl,ow7,hb7⟩;obtain⟨ao7,cap7,rfl⟩:=Y1 ow7;have hB7:Below w3.heap.size w3 w7:=(by first | exact((Below.refl _ _).drew).trans (hb7.mono (Lr)) | exact(((Below.refl _ _).drew).alloc (Lr) _).trans (hb7.mono (by simp)));(try (have z0:w7.cell? ⟨w3.heap.size,0,none⟩=some (.string ⟨#[]⟩):=(hb7.cell (p:=⟨w3.heap.size,0,none⟩) (by simp)).trans (Blk.cell (Blk.new w3.drew 38 #[.string ⟨#[]⟩,.slice none 0 0,.string ⟨#[]⟩,.slice none 0 0]) 0)));(try (have z1:w7.cell? ⟨w3.heap.size,1,none⟩=some (.slice none 0 0):=(hb7.cell (p:=⟨w3.heap.size,1,none⟩) (by simp)).trans (Blk.cell (Blk.new w3.drew 38 #[.string ⟨#[]⟩,.slice none 0 0,.string ⟨#[]⟩,.slice none 0 0]) 1)));(try (have z2:w7.cell? ⟨w3.heap.size,2,none⟩=some (.string ⟨#[]⟩):=(hb7.cell (p:=⟨w3.heap.size,2,none⟩) (by simp)).trans (Blk.cell (Blk.new w3.drew 38 #[.string ⟨#[]⟩,.slice none 0 0,.string ⟨#[]⟩,.slice none 0 0]) 2)));(try (have z3:w7.cell? ⟨w3.heap.size,3,none⟩=some (.slice none 0 0):=(hb7.cell (p:=⟨w3.heap.size,3,none⟩) (by simp)).trans (Blk.cell (Blk.new w3.drew 38 #[.string ⟨#[]⟩,.slice none 0 0,.string ⟨#[]⟩,.slice none 0 0]) 3)));(try (have g0:w7.frozen? ⟨w3.heap.size,0,none⟩=false:=(hb7.frozen (p:=⟨w3.heap.size,0,none⟩) (by simp)).trans (Blk.frozen (Blk.new w3.drew 38 #[.string ⟨#[]⟩,.slice none 0 0,.string ⟨#[]⟩,.slice none 0 0]) 0)));(try (have g1:w7.frozen? ⟨w3.heap.size,1,none⟩=false:=(hb7.frozen (p:=⟨w3.heap.size,1,none⟩) (by simp)).trans (Blk.frozen (Blk.new w3.drew 38 #[.string ⟨#[]⟩,.slice none 0 0,.string ⟨#[]⟩,.slice none 0 0]) 1)));(try (have g2:w7.frozen? ⟨w3.heap.size,2,none⟩=false:=(hb7.frozen (p:=⟨w3.heap.size,2,none⟩) (by simp)).trans (Blk.frozen (Blk.new w3.drew 38 #[.string ⟨#[]⟩,.slice none 0 0,.string ⟨#[]⟩,.slice none 0 0]) 2)));(try (have g3:w7.frozen? ⟨w3.heap.size,3,none⟩=false:=(hb7.frozen (p:=⟨w3.heap.size,3,none⟩) (by simp)).trans (Blk.frozen (Blk.new w3.drew 38 #[.string ⟨#[]⟩,.slice none 0 0,.string ⟨#[]⟩,.slice none 0 0]) 3)))))
     ·have hBF:=hB7.alloc hB7.size (.cells #[.string (st n),.slice ao7 la.length cap7,.string ⟨#[]⟩,.slice ao2 (Mk.Y3 base .nil k).len cap2] 38)
      have LF:=L3.out.trans (hBF.mono hs03);have hs7:=hB7.size;have at7:AtsV w7 (fun g=>w3.heap.size≤g∧g < w7.heap.size) (.slice ao7 la.length cap7) la:=AtsV.of_own ow7 (fun g hg=>⟨(ow7.lt g hg).1,(ow7.lt g hg).2⟩);have atF:AtsV (w7.alloc (.cells #[.string (st n),.slice ao7 la.length cap7,.string ⟨#[]⟩,.slice ao2 (Mk.Y3 base .nil k).len cap2] 38)) (Kn K0 w (w7.alloc (.cells #[.string (st n),.slice ao7 la.length cap7,.string ⟨#[]⟩,.slice ao2 (Mk.Y3 base .nil k).len cap2] 38))) (.slice ao7 la.length cap7) la:=at7.frame (fun g hg=>⟨.inr ⟨Nat.le_trans hs03 hg.1,by have:=hg.2;simp;omega⟩,Below.heap_alloc w7 _ g hg.2⟩);have foF:=FK3.out.frame (Kn.up hK0 hs03 hBF);have HREL:=Ld (And.intro LF (And.intro (Blk.new w7 38 #[.string (st n),.slice ao7 la.length cap7,.string ⟨#[]⟩,.slice ao2 (Mk.Y3 base .nil k).len cap2]) (And.intro atF foF)));clear hBF LF at7 atF foF HFR HAC;go_wp2_with fail;go_meet
      case rel=>exact⟨w7.heap.size,ao7,cap7,rfl,HREL.out.1,HREL.out.2.1,HREL.out.2.2.1,HREL.out.2.2.2⟩
     ·have hBF:=((((hB7.setCell (p:=⟨w3.heap.size,0,none⟩) (Lr) (.string (st n))).setCell (p:=⟨w3.heap.size,1,none⟩) (Lr) (.slice ao7 la.length cap7)).setCell (p:=⟨w3.heap.size,2,none⟩) (Lr) (.string ⟨#[]⟩)).setCell (p:=⟨w3.heap.size,3,none⟩) (Lr) (.slice ao2 (Mk.Y3 base .nil k).len cap2))
      have LF:=L3.out.trans (hBF.mono hs03);have hs7:=hB7.size;have b7:Blk w7 w3.heap.size 38 #[.string ⟨#[]⟩,.slice none 0 0,.string ⟨#[]⟩,.slice none 0 0]:=(hb7.block w3.heap.size (by simp)).trans (Blk.new w3 _ _);have at7:AtsV w7 (fun g=>w3.heap.size < g∧g < w7.heap.size) (.slice ao7 la.length cap7) la:=AtsV.of_own ow7 (fun g hg=>⟨by have:=(ow7.lt g hg).1;simp at this;omega,(ow7.lt g hg).2⟩);have atF:AtsV ((((w7.setCell ⟨w3.heap.size,0,none⟩ (.string (st n))).setCell ⟨w3.heap.size,1,none⟩ (.slice ao7 la.length cap7)).setCell ⟨w3.heap.size,2,none⟩ (.string ⟨#[]⟩)).setCell ⟨w3.heap.size,3,none⟩ (.slice ao2 (Mk.Y3 base .nil k).len cap2)) (Kn K0 w ((((w7.setCell ⟨w3.heap.size,0,none⟩ (.string (st n))).setCell ⟨w3.heap.size,1,none⟩ (.slice ao7 la.length cap7)).setCell ⟨w3.heap.size,2,none⟩ (.string ⟨#[]⟩)).setCell ⟨w3.heap.size,3,none⟩ (.slice ao2 (Mk.Y3 base .nil k).len cap2))) (.slice ao7 la.length cap7) la:=at7.frame (fun g hg=>⟨.inr ⟨by have:=hg.1;omega,by have:=hg.2;simpa [World.setCell] using this⟩,by
       have hne:g ≠ w3.heap.size:=by have:=hg.1;omega
       rw[Below.heap_setCell _ ⟨w3.heap.size,3,none⟩ _ g hne,Below.heap_setCell _ ⟨w3.heap.size,2,none⟩ _ g hne,Below.heap_setCell _ ⟨w3.heap.size,1,none⟩ _ g hne,Below.heap_setCell _ ⟨w3.heap.size,0,none⟩ _ g hne]⟩)
      have foF:=FK3.out.frame (Kn.up hK0 hs03 hBF);have HREL:=Ld (And.intro LF (And.intro (Blk.set_ (Blk.set_ (Blk.set_ (Blk.set_ b7 0 (.string (st n))) 1 (.slice ao7 la.length cap7)) 2 (.string ⟨#[]⟩)) 3 (.slice ao2 (Mk.Y3 base .nil k).len cap2)) (And.intro atF foF)));clear hBF LF at7 atF foF HFR HAC b7;go_wp2_with fail;go_meet
      case rel=>exact⟨w3.heap.size,ao7,cap7,rfl,HREL.out.1,HREL.out.2.1,HREL.out.2.2.1,HREL.out.2.2.2⟩
    case rest =>
     obtain⟨P,ao7,cap7,rfl,LX,PB,ATX,FOX⟩:=hcut;have c0:wc.cell? ⟨P,0,none⟩=some (.string (st n)):=Blk.cell PB.out 0;have c1:wc.cell? ⟨P,1,none⟩=some (.slice ao7 la.length cap7):=Blk.cell PB.out 1;have c2:wc.cell? ⟨P,2,none⟩=some (.string ⟨#[]⟩):=Blk.cell PB.out 2;have c3:wc.cell? ⟨P,3,none⟩=some (.slice ao2 (Mk.Y3 base .nil k).len cap2):=Blk.cell PB.out 3;clear HFR HAC FK3 NB3 L3;have hKX:=Kn.le hK0 LX.out.size
     by_cases him:n=[105,109,103]
     ·have hib:(n == [105,109,103])=true:=beq_iff_eq.2 him
      have hha:=cl_has la [115,114,99] (.slice ao7 la.length cap7) (Kn K0 w wc) wc ATX.out hKX HLL.out;obtain⟨hh,hhe⟩:∃ b,Mk.z1d la [115,114,99]=b:=⟨_,rfl⟩;rw[hhe] at hha;have HHA:=Ld hha;have HNE5:Hid (Mk.z08 base n a t k=if hh=false then .nil else .node n la [] (Mk.Y3 base .nil k) .nil):=by
       show _=_;rw[HNE4.out,hhe]
       cases hh <;> simp[him]
      clear HNE4 hha hhe him
      cases hh with
      | false =>
       have HN:Hid (Mk.z08 base n a t k=.nil):=by show _=_;rw[HNE5.out];rfl
       clear HNE5;go_wp2_with fail;refine HHA.out.mono ?_;rintro e w5 ⟨rfl,hb5⟩;have L5:=Ld (LX.out.trans (hb5.mono LX.out.size));clear hb5 HHA;go_wp2_with fail;go_ret;exact⟨_,rfl,by rw[HN.out];exact⟨none,0,[],rfl,.inl rfl,rfl,Nat.zero_le _⟩,L5.out⟩
      | true =>
       have HN:Hid (Mk.z08 base n a t k=.node n la [] (Mk.Y3 base .nil k) .nil):=by show _=_;rw[HNE5.out];rfl
       clear HNE5;go_wp2_with fail;refine HHA.out.mono ?_;rintro e w5 ⟨rfl,hb5⟩;have L5:=Ld (LX.out.trans (hb5.mono LX.out.size));have up5:=Kn.up hK0 LX.out.size hb5;have AT5:=Ld (ATX.out.frame up5);have FO5:=Ld (FOX.out.frame up5);have PB5:=Ld (Blk.below PB.out hb5 (Blk.lt PB.out));clear hb5 HHA c0 c1 c2 c3 up5;have d0:w5.cell? ⟨P,0,none⟩=some (.string (st n)):=Blk.cell PB5.out 0;have d1:w5.cell? ⟨P,1,none⟩=some (.slice ao7 la.length cap7):=Blk.cell PB5.out 1;have d2:w5.cell? ⟨P,2,none⟩=some (.string ⟨#[]⟩):=Blk.cell PB5.out 2;have d3:w5.cell? ⟨P,3,none⟩=some (.slice ao2 (Mk.Y3 base .nil k).len cap2):=Blk.cell PB5.out 3;go_wp2_with fail;go_ret;have hb6:=(Below.refl _ w5).alloc (Lr) (.cells #[.string (st n),.slice ao7 la.length cap7,.string (st []),.slice ao2 (Mk.Y3 base .nil k).len cap2] 38);have up6:=Kn.up hK0 L5.out.size hb6;refine⟨_,rfl,?_,L5.out.trans (hb6.mono L5.out.size)⟩;rw[HN.out];exact FoV.one (t:=[]) (Blk.new w5 _ _) (.inr ⟨L5.out.size,by simp⟩) (AT5.out.frame up6) (FO5.out.frame up6) _
     ·have hib:(n == [105,109,103])=false:=beq_eq_false_iff_ne.2 him
      have HN:Hid (Mk.z08 base n a t k=.node n la [] (Mk.Y3 base .nil k) .nil):=by
       show _=_;rw[HNE4.out,if_neg (fun q=>him q.1)]
      clear HNE4;have L5:=LX;have AT5:=ATX;have FO5:=FOX;have PB5:=PB;have d0:wc.cell? ⟨P,0,none⟩=some (.string (st n)):=Blk.cell PB5.out 0;have d1:wc.cell? ⟨P,1,none⟩=some (.slice ao7 la.length cap7):=Blk.cell PB5.out 1;have d2:wc.cell? ⟨P,2,none⟩=some (.string ⟨#[]⟩):=Blk.cell PB5.out 2;have d3:wc.cell? ⟨P,3,none⟩=some (.slice ao2 (Mk.Y3 base .nil k).len cap2):=Blk.cell PB5.out 3;go_wp2_with fail;go_ret;have hb6:=(Below.refl _ wc).alloc (Lr) (.cells #[.string (st n),.slice ao7 la.length cap7,.string (st []),.slice ao2 (Mk.Y3 base .nil k).len cap2] 38);have up6:=Kn.up hK0 L5.out.size hb6;refine⟨_,rfl,?_,L5.out.trans (hb6.mono L5.out.size)⟩;rw[HN.out];exact FoV.one (t:=[]) (Blk.new wc _ _) (.inr ⟨L5.out.size,by simp⟩) (AT5.out.frame up6) (FO5.out.frame up6) _
end Go.Proofs.YtagleefekmdldaaGreatDoor
namespace Mk
theorem q63 (base n:Bs) (a:List At) (t:Bs) (k:Fo):Fo.bulk (z08 base n a t k)≤3001 * (1 + n.length + t.length + Fo.atB a + Fo.bulk k):=by
 have hk:=(q5k base k .nil).1;have ha:=z7o base n a;have hk0:Fo.bulk .nil=0:=rfl;unfold z08
 split
 ·show 1 + n.length + t.length + Fo.atB a + Fo.bulk k + 0≤_
  omega
 split
 ·exact Nat.zero_le _
 split
 ·omega
 split
 ·exact Nat.zero_le _
 ·show 1 + n.length + 0 + Fo.atB (Q5 base n a) + Fo.bulk (Y3 base .nil k) + 0≤_
  omega
end Mk
namespace Mk
theorem z7d:∀ (f:Fo) (names:List Bs) (prev:Bool),Y2 f names prev=0→Bare f
 | .nil,_,_,_=>trivial
 | .node n a t k r,names,prev,h=>by
  unfold Y2 at h
  by_cases h1:z0p names n a t k ≠ 0
  ·rw[if_pos h1] at h;exact absurd h h1
  rw[if_neg h1] at h
  by_cases h2:n=[]∧prev
  ·rw[if_pos h2] at h;cases h
  rw[if_neg h2] at h
  by_cases h3:Y2 k (names++[n]) false ≠ 0
  ·rw[if_pos h3] at h;exact absurd h h3
  rw[if_neg h3] at h;refine⟨fun hn=>?_,z7d k _ _ (Decidable.of_not_not h3),z7d r _ _ h⟩;have h4:=Decidable.of_not_not h1;unfold z0p at h4;rw[if_pos hn] at h4
  by_cases h5:a=[]∧k=.nil
  ·exact h5
  ·simp_all
theorem q7m {f:Fo} (h:z2h f=0):Bare f:=by
 unfold z2h at h
 split at h
 ·cases h
 ·exact z7d _ _ _ h
end Mk
namespace Go.Proofs.YtagleefekmdldaaGreatDoor
open Go.Proofs.Tryz Go.RowKit
theorem cl_nodes (base:List UInt8) (N:Nat):∀ (f:Mk.Fo),f.bulk < N→f.bulk≤33554432→∀ C,NodesC base C f:=by
 induction N with
 | zero=>intro f hN;omega
 | succ N ih =>
  intro f hN hf C v K K0 w hv hK hK0 hB hC hCc;obtain⟨gm,o,cap,hv1,hlen,hat⟩:=hv.at_
  have HAT:=Ld hat
  clear hat
  have hgl:=Mk.Fo.z0m f
  rcases hv1 with ⟨hv1,hKg⟩ | ⟨ao,hv1,hnil⟩
  ·subst hv1
   have hgm:=hK gm hKg;go_enter func61,ntmps61;go_wp2_with fail
   go_loopw [5,10] (fun u i wr=>∃ (k:Nat) (f':Mk.Fo) (xs':List Value) (Kr:Nat→Prop),k≤f.len∧i=.int .i64 k∧Hid (Mk.Y3 base .nil f=Mk.Y3 base f' (f.drop k))∧f'.bulk + 3001 * (f.drop k).bulk≤3001 * f.bulk∧Hid (∀ b,Kr b→K0 b∨w.heap.size≤b)∧Hid (OwnF wr w.heap.size Kr u f' xs')∧Hid (Below w.heap.size w wr)) (fun _ i _=>f.len - (intOf i).toNat)
   case atStart=>exact⟨0,.nil,[],(fun _=>False),Nat.zero_le _,rfl,by show _=_;rw[Mk.Fo.drop_zero],by rw[Mk.Fo.drop_zero];show 0 + _≤_;omega,fun _ h=>h.elim,⟨World.ownsRow_nil _ _ _ _,rfl,fun _ _ h=>h,fun _ h=>h.elim⟩,Below.refl _ _⟩
   case round =>
    obtain⟨k,f',xs',Kr,hk,rfl,HJ,hbk,HKR,OF,BL⟩:=hrel;have hsz:=BL.out.size
    by_cases hlt:k < f.len
    ·obtain⟨n,a,t,kk,r,hd,hd1⟩:=Mk.Fo.z1x f k hlt
     obtain⟨va,vk,c0,c1,c2,c3,hva,hvk⟩:=HAT.out k n a t kk r hd;rw[← BL.out.cell (p:=⟨gm,_,none⟩) hgm] at c0 c1 c2 c3;obtain⟨aoa,capa,hva1,_⟩:=id hva;obtain⟨aok,capk,xsk,hvk1,_⟩:=id hvk;subst hva1;subst hvk1;have hdb:(f.drop k).bulk=1 + n.length + t.length + Mk.Fo.atB a + kk.bulk + r.bulk:=by rw[hd];rfl
     have hdb2:=Mk.Fo.z0s f k;have HJ2:Hid (Mk.Y3 base .nil f=Mk.Y3 base (f'.joins (Mk.z08 base n a t kk)) (f.drop (k + 1))):=by show _=_;rw[HJ.out,hd,hd1,Mk.z9a]
     have hno:=Mk.q63 base n a t kk;have hjb:=Mk.Fo.z8n (Mk.z08 base n a t kk) f';have hbk2:(f'.joins (Mk.z08 base n a t kk)).bulk + 3001 * (f.drop (k + 1)).bulk≤3001 * f.bulk:=by rw[hd1];omega
     have hal:=(Below.refl wr.heap.size wr).alloc (Lr) (.cells #[.string (st n),.slice aoa a.length capa,.string (st t),.slice aok kk.len capk] 38);have BL1:=Ld (BL.out.trans (hal.mono hsz));have OF1:=Ld (OF.out.frame hal.size (fun b hb _=>hal.block b hb));have hnd:=cl_node base n t a kk (ih kk (by omega) (by omega)) (by omega) C (.slice aoa a.length capa) (.slice aok kk.len capk) K K0 (wr.alloc (.cells #[.string (st n),.slice aoa a.length capa,.string (st t),.slice aok kk.len capk] 38)) (hva.below hK BL1.out) (hvk.below hK BL1.out) (fun b hb=>Nat.lt_of_lt_of_le (hK b hb) BL1.out.size) (fun b hb=>Nat.lt_of_lt_of_le (hK0 b hb) BL1.out.size) (hB.imp (fun q=>(by have:=Mk.Bare.drop k q;rw[hd] at this;exact⟨this.1,this.2.1⟩)) id) (Nat.lt_of_lt_of_le hC BL1.out.size) ((BL1.out.cell (p:=⟨C,0,none⟩) hC).trans hCc);unfold z0d at hnd;generalize Mk.z08 base n a t kk=no at hnd HJ2 hbk2 hno hjb;have HND:=Ld hnd;clear HAT hal hnd HJ hd hd1 hva hvk OF;go_wp2_with fail;refine HND.out.mono ?_;rintro e w2 ⟨vm,rfl,hfm,hb2⟩;generalize wr.alloc (.cells #[.string (st n),.slice aoa a.length capa,.string (st t),.slice aok kk.len capk] 38)=w1 at BL1 OF1 hb2 hfm;have BL2:=Ld (BL1.out.trans (hb2.mono BL1.out.size));have OF2:Hid (OwnF w2 w.heap.size (fun b=>Kr b∨Kn K0 w1 w2 b) u5 f' xs'):=by
      have h:=OF1.out.frame hb2.size (fun b hb _=>hb2.block b hb);refine⟨h.own,h.cells.frame (fun b hb=>⟨.inl hb,rfl⟩),?_,?_⟩
      ·intro g hg
       rintro (q | q | q)
       ·exact h.ne g hg q
       ·have:=hK0 g q;have:=(h.own.lt g hg).1;omega
       ·have:=(OF1.out.own.lt g hg).2;omega
      ·rintro b (q | q)
       ·exact h.le b q
       ·exact Kn.le (fun b hb=>Nat.lt_of_lt_of_le (hK0 b hb) BL1.out.size) hb2.size b q
     have FM2:Hid (FoV w2 (fun b=>Kr b∨Kn K0 w1 w2 b) vm no):=hfm.frame (fun b hb=>⟨.inr hb,rfl⟩);have HK2:Hid (∀ b,(Kr b∨Kn K0 w1 w2 b)→K0 b∨w.heap.size≤b):=by
      rintro b (q | q | q)
      ·exact HKR.out b q
      ·exact .inl q
      ·exact .inr (Nat.le_trans BL1.out.size q.1)
     have HPU:=Ld (cl_put f' no u5 vm w.heap.size (fun b=>Kr b∨Kn K0 w1 w2 b) xs' w2 OF2.out FM2.out BL2.out.size (by omega));clear HND hfm hb2 OF1 BL1 c0 c1 c2 c3;go_wp2_with fail;refine HPU.out.mono ?_;rintro e w3 ⟨v3,xs3,rfl,hof3,hap3,_⟩;have BL3:=Ld (BL2.out.trans (hap3.below BL2.out.size (fun b hb e=>by have:=(OF2.out.own.lt b e).1;omega)));have OF3:=Ld hof3;clear HPU hof3 hap3 OF2 FM2;go_wp2_with fail;go_roundw
     case rel=>exact⟨k + 1,_,xs3,_,by omega,by go_num,HJ2,hbk2,HK2,OF3,BL3⟩
     case measure=>simp[intOf];omega
    ·have hke:k=f.len:=by omega
     rw[hke,Mk.Fo.z2v] at HJ;have HJ2:Hid (Mk.Y3 base .nil f=f'):=HJ;clear HJ HAT;go_wp2_with fail;go_ret;refine⟨_,rfl,?_,BL.out⟩;rw[HJ2.out];refine OF.out.foV (fun b hb=>?_) (fun g hg=>.inr (OF.out.own.lt g hg))
     rcases HKR.out b hb with q | q
     ·exact .inl q
     ·exact .inr ⟨q,OF.out.le b hb⟩
  ·subst hnil
   subst hv1;clear HAT;go_enter func61,ntmps61;go_wp2_with fail
   go_loopw [5,10] (fun u i wr=>u=.slice none 0 0∧i=.int .i64 0∧wr=w) (fun _ _ _=>0)
   case atStart=>exact⟨rfl,rfl,rfl⟩
   case round =>
    obtain⟨rfl,rfl,rfl⟩:=hrel;go_wp2_with fail;go_ret;exact⟨_,rfl,⟨none,0,[],rfl,.inl rfl,rfl,Nat.zero_le _⟩,Below.refl _ _⟩

theorem cl_Of0 (base:List UInt8) (f:Mk.Fo) (v:Value) (K K0:Nat→Prop) (w:World) (hf:f.bulk≤33554432) (hv:FoV w K v f) (hK:∀ b,K b→b < w.heap.size) (hK0:∀ b,K0 b→b < w.heap.size) (hB:Mk.Bare f∨∀ b,K b→K0 b) :
  Calls prog 43 #[.string (st base),v] w fun e w'=>∃ v',e=.returned v'∧FoV w' (Kn K0 w w') v' (Mk.clean base f)∧Below w.heap.size w w':=by
 have hal:=(Below.refl w.heap.size w).alloc (Lr) (.cells #[.string (st base)] 98);have HN:=Ld (cl_nodes base (f.bulk + 1) f (Nat.lt_succ_self _) hf w.heap.size v K K0 (w.alloc (.cells #[.string (st base)] 98)) (hv.below hK hal) (fun b hb=>Nat.lt_of_lt_of_le (hK b hb) hal.size) (fun b hb=>Nat.lt_of_lt_of_le (hK0 b hb) hal.size) hB (Blk.lt (Blk.new w _ _)) (Blk.cell (Blk.new w _ _) 0));have AL:=Ld hal;clear hal hv;go_enter func43,ntmps43;go_wp2_with fail;refine HN.out.mono ?_;rintro e w1 ⟨v1,rfl,hf1,hb⟩;have L:=Ld (AL.out.trans (hb.mono AL.out.size));have F1:Hid (FoV w1 (Kn K0 w w1) v1 (Mk.clean base f)):=hf1.frame (fun b hb'=>⟨hb'.imp id (fun q=>⟨Nat.le_trans AL.out.size q.1,q.2⟩),rfl⟩);clear hb hf1 HN;go_wp2_with fail;go_ret;exact⟨_,rfl,F1.out,L.out⟩
theorem q92 (base:List UInt8) (f:Mk.Fo) (v:Value) (K K0:Nat→Prop) (w:World) (hf:f.bulk≤33554432) (hv:FoV w K v f) (hK:∀ b,K b→b < w.heap.size) (hK0:∀ b,K0 b→b < w.heap.size) (hB:(Mk.z2h f=0→Mk.Bare f)∨∀ b,K b→K0 b) :
  Calls prog 15 #[.string (st base),v] w fun e w'=>∃ v' c,e=.returned (.tuple #[v',.int .i64 c])∧c=(if Mk.z2h f ≠ 0 then Mk.z2h f else if 3000 < base.length then 2 else 0)∧(c ≠ 0→v'=.slice none 0 0)∧(c=0→FoV w' (Kn K0 w w') v' (Mk.clean base f))∧Below w.heap.size w w':=by
 have HC:=Ld (q0a f v K w hf hv hK);have HV:=Ld hv;obtain⟨ao,cap,xs,hv1,_⟩:=hv;subst hv1;generalize Mk.z2h f=c at HC hB;have hst:(st base).size=base.length:=rfl;go_enter func15,ntmps15;go_wp2_with fail;refine HC.out.mono ?_;rintro e w1 ⟨rfl,hb1⟩;have L1:=Ld hb1;clear HC hb1
 by_cases hc:c=0
 ·subst hc
  by_cases hl:3000 < base.length
  ·have hl2:3000 < (st base).size:=hl
   clear hst;go_wp2_with fail;go_ret2;exact⟨_,_,rfl,by first | rfl | simp[hl] | simp_all,fun _=>rfl,fun h=>absurd h (by decide),L1.out⟩
  ·have hl2:¬ 3000 < (st base).size:=hl
   have HO:=Ld (cl_Of0 base f (.slice ao f.len cap) K K0 w1 hf (HV.out.below hK L1.out) (fun b hb=>Nat.lt_of_lt_of_le (hK b hb) L1.out.size) (fun b hb=>Nat.lt_of_lt_of_le (hK0 b hb) L1.out.size) (hB.imp (fun q=>q rfl) id));clear hst;go_wp2_with fail;refine HO.out.mono ?_;rintro e w2 ⟨v2,rfl,hf2,hb2⟩;have L2:=Ld (L1.out.trans (hb2.mono L1.out.size));have F2:Hid (FoV w2 (Kn K0 w w2) v2 (Mk.clean base f)):=hf2.frame (fun b hb'=>⟨hb'.imp id (fun q=>⟨Nat.le_trans L1.out.size q.1,q.2⟩),rfl⟩);clear HO hb2 hf2;go_wp2_with fail;go_ret2;exact⟨_,_,rfl,by first | rfl | simp[hl] | simp_all,fun h=>absurd rfl h,fun _=>F2.out,L2.out⟩
 ·have hcb:(c == 0)=false:=beq_eq_false_iff_ne.2 hc
  go_wp2_with fail;go_ret2;exact⟨_,_,rfl,by first | rfl | simp[hc] | simp_all,fun _=>rfl,fun h=>absurd h hc,L1.out⟩
theorem cl_Of (base:List UInt8) (f:Mk.Fo) (v:Value) (K:Nat→Prop) (w:World) (hf:f.bulk≤33554432) (hv:FoV w K v f) (hK:∀ b,K b→b < w.heap.size) :
  Calls prog 43 #[.string (st base),v] w fun e w'=>∃ v',e=.returned v'∧FoV w' (Kn K w w') v' (Mk.clean base f)∧Below w.heap.size w w':=cl_Of0 base f v K K w hf hv hK hK (.inr fun _ q=>q)
theorem cl_Tree (base:List UInt8) (f:Mk.Fo) (v:Value) (K:Nat→Prop) (w:World) (hf:f.bulk≤33554432) (hv:FoV w K v f) (hK:∀ b,K b→b < w.heap.size) :
  Calls prog 15 #[.string (st base),v] w fun e w'=>∃ v' c,e=.returned (.tuple #[v',.int .i64 c])∧c=(if Mk.z2h f ≠ 0 then Mk.z2h f else if 3000 < base.length then 2 else 0)∧(c ≠ 0→v'=.slice none 0 0)∧(c=0→FoV w' (Kn K w w') v' (Mk.clean base f))∧Below w.heap.size w w':=q92 base f v K K w hf hv hK hK (.inr fun _ q=>q)
theorem cl_TreeN (base:List UInt8) (f:Mk.Fo) (v:Value) (K:Nat→Prop) (w:World) (hf:f.bulk≤33554432) (hv:FoV w K v f) (hK:∀ b,K b→b < w.heap.size) :
  Calls prog 15 #[.string (st base),v] w fun e w'=>∃ v' c g,e=.returned (.tuple #[v',.int .i64 c])∧FoV w' (fun b=>w.heap.size≤b∧b < w'.heap.size) v' g∧Below w.heap.size w w':=by
 refine(q92 base f v K (fun _=>False) w hf hv hK (fun _ q=>q.elim) (.inl Mk.q7m)).mono ?_;rintro e w' ⟨v',c,rfl,_,h1,h2,h3⟩
 by_cases hc:c=0
 ·exact⟨v',c,_,rfl,(h2 hc).frame fun b q=>⟨q.elim (fun x=>x.elim) id,rfl⟩,h3⟩
 ·exact⟨v',c,.nil,rfl,by rw[h1 hc];exact FoV.nil' _ _ _ _,h3⟩
end Go.Proofs.YtagleefekmdldaaGreatDoor
