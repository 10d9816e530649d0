/- How a shelf's keeper lies in memory; contracts of the shelf's own and place. Condition: at most 1000 entries and ids. -/
import Derived.Test.YtjonkbdldebkiaaGreatDoorYWkA
import Derived.Test.YtjonkbdldebkiaaGreatDoorYWkC
import Derived.Test.YtjonkbdldebkiaaGreatDoorYWeC
import Derived.Test.YtjonkbdldebkiaaGreatDoorYMkClean4
import Derived.Deep.RegionHeld3
set_option linter.unusedVariables false
set_option linter.unusedSimpArgs false
set_option maxHeartbeats 4000000
set_option maxRecDepth 100000
namespace Go.Proofs.YtjonkbdldebkiaaGreatDoor
open Go.Proofs.Tryz Go.RowKit
structure KpI (w wx:World) (M:Nat) (ue ur:Value) (es:List Fd.En) (rd:List (List UInt8)):Prop where
 ml:w.heap.size≤M
 mb:Blk wx M 137 #[ue,ur]
 be:Below w.heap.size w wx
 oe:wx.ownsRow w.heap.size 44 5 ue es.length (y9 es)
 or:wx.ownsRow w.heap.size 9 1 ur rd.length (Q8 rd)
 ne:ue.ownBlock ≠ some M
 nr:ur.ownBlock ≠ some M
 nn:∀ g,ue.ownBlock=some g→ur.ownBlock ≠ some g
theorem own_base {w:World} {B B' size n:Nat} {e:TypeId} {v:Value} {xs:List Value} (h:w.ownsRow B e size v n xs) (hb:B'≤B):w.ownsRow B' e size v n xs:=by
 refine⟨h.1,?_⟩
 rcases h.2 with q | ⟨g,cap,cur,hv,hB,r⟩
 ·exact .inl q
 ·exact .inr ⟨g,cap,cur,hv,by omega,r⟩
section
variable {w wx wy : World} {M : Nat} {ue ur : Value} {es : List Fd.En} {rd : List (List UInt8)}
theorem KpI.below (h:KpI w wx M ue ur es rd) (hb:Below wx.heap.size wx wy):KpI w wy M ue ur es rd :=
 ⟨h.ml,Blk.below h.mb hb h.mb.lt,h.be.trans (hb.mono h.be.size),V7 h.oe (fun g q=>hb.block g (h.oe.lt g q).2),V7 h.or (fun g q=>hb.block g (h.or.lt g q).2),h.ne,h.nr,h.nn⟩
theorem KpI.drew (h:KpI w wx M ue ur es rd):KpI w wx.drew M ue ur es rd:=h.below ((Below.refl _ wx).drew)
theorem KpI.ents (h:KpI w wx M ue ur es rd):z18 wx (fun b=>b < wx.heap.size∧b ≠ M) ue es:=by
 obtain⟨ao,cap,h1,h2,h3⟩:=z19.of_own (K:=fun b=>b < wx.heap.size∧b ≠ M) h.oe (fun g q=>⟨(h.oe.lt g q).2,fun e=>h.ne (by rw[← e];exact q)⟩);exact⟨ao,cap,h1,h2,h3⟩
theorem KpI.strs (h:KpI w wx M ue ur es rd):z0n wx (fun b=>b < wx.heap.size∧b ≠ M) ur rd :=
 z0n.of_own h.or (fun g q=>⟨(h.or.lt g q).2,fun e=>h.nr (by rw[← e];exact q)⟩)
theorem KpI.setE (h:KpI w wx M ue ur es rd) {ue':Value} {es':List Fd.En} (hap:Ap (fun b=>ue.ownBlock=some b) wx wy) (ho:wy.ownsRow w.heap.size 44 5 ue' es'.length (y9 es')) (hb:∀ g,ue'.ownBlock=some g→ue.ownBlock=some g∨wx.heap.size≤g) :
  KpI w (wy.setCell ⟨M,0,none⟩ ue') M ue' ur es' rd:=by
 have hMw:=h.mb.lt;have hMy:M < wy.heap.size:=Nat.lt_of_lt_of_le hMw hap.size;have hur:∀ g,ur.ownBlock=some g→wy.heap[g]? = wx.heap[g]?:=fun g q=>hap.block g (h.or.lt g q).2 (fun e=>h.nn g e q)
 have hne:ue'.ownBlock ≠ some M:=fun e=>by
  rcases hb M e with q | q
  ·exact h.ne q
  ·omega
 have hmb:Blk wy M 137 #[ue,ur]:=(hap.block M hMw (fun e=>h.ne e)).trans h.mb;refine⟨h.ml,Blk.set_ hmb 0 _,?_,?_,?_,hne,h.nr,fun g q1 q2=>?_⟩
 ·have:Below w.heap.size w wy:=h.be.trans (hap.below h.be.size (fun k hk e=>absurd (h.oe.lt k e).1 (by omega)))
  exact this.setCell (p:=⟨M,0,none⟩) h.ml _
 ·exact ownsRow_setCell_other ho (a:=⟨M,0,none⟩) hne _
 ·exact ownsRow_setCell_other (V7 h.or hur) (a:=⟨M,0,none⟩) h.nr _
 ·rcases hb g q1 with q | q
  ·exact h.nn g q q2
  ·have:=(h.or.lt g q2).2;omega
theorem KpI.setR (h:KpI w wx M ue ur es rd) {ur':Value} {rd':List (List UInt8)} (hap:Ap (fun b=>ur.ownBlock=some b) wx wy) (ho:wy.ownsRow w.heap.size 9 1 ur' rd'.length (Q8 rd')) (hb:∀ g,ur'.ownBlock=some g→ur.ownBlock=some g∨wx.heap.size≤g) :
  KpI w (wy.setCell ⟨M,1,none⟩ ur') M ue ur' es rd':=by
 have hMw:=h.mb.lt;have hue:∀ g,ue.ownBlock=some g→wy.heap[g]? = wx.heap[g]?:=fun g q=>hap.block g (h.oe.lt g q).2 (fun e=>h.nn g q e)
 have hne:ur'.ownBlock ≠ some M:=fun e=>by
  rcases hb M e with q | q
  ·exact h.nr q
  ·omega
 have hmb:Blk wy M 137 #[ue,ur]:=(hap.block M hMw (fun e=>h.nr e)).trans h.mb;refine⟨h.ml,Blk.set_ hmb 1 _,?_,?_,?_,h.ne,hne,fun g q1 q2=>?_⟩
 ·have:Below w.heap.size w wy:=h.be.trans (hap.below h.be.size (fun k hk e=>absurd (h.or.lt k e).1 (by omega)))
  exact this.setCell (p:=⟨M,1,none⟩) h.ml _
 ·exact ownsRow_setCell_other (V7 h.oe hue) (a:=⟨M,1,none⟩) h.ne _
 ·exact ownsRow_setCell_other ho (a:=⟨M,1,none⟩) hne _
 ·rcases hb g q2 with q | q
  ·exact h.nn g q1 q
  ·have:=(h.oe.lt g q1).2;omega
end
theorem j06 (es:List Fd.En) (rd:List (List UInt8)) (ve vr:Value) (K:Nat→Prop) (w:World) (he:z18 w K ve es) (hr:z0n w K vr rd) (hK:∀ b,K b→b < w.heap.size) (hle:es.length≤1000) (hlr:rd.length≤1000) :
  Calls prog 83 #[.agg #[ve,vr]] w fun e w'=>∃ M ue ur,e=.returned (.pointer (some ⟨M,0,none⟩))∧KpI w w' M ue ur es rd:=by
 obtain⟨aoe,cape,rfl,_⟩:=id he;obtain⟨aor,capr,rfl,_⟩:=id hr;have hal:=(Below.refl w.heap.size w).alloc (Lr) (.cells #[.slice aoe es.length cape,.slice aor rd.length capr] 26);have XB:=Ld (Blk.new w 26 #[.slice aoe es.length cape,.slice aor rd.length capr]);have HCE:Hid (∀ W,Below w.heap.size w W→Calls prog 140 #[.slice aoe es.length cape] W fun e w'=>∃ v',e=.returned v'∧w'.ownsRow W.heap.size 44 5 v' es.length (y9 es)∧Below W.heap.size W w'):=fun W hW=>j7e es _ K W (he.below hK hW) hle
 have HCS:Hid (∀ W,Below w.heap.size w W→Calls prog 141 #[.slice aor rd.length capr] W fun e w'=>∃ v',e=.returned v'∧w'.ownsRow W.heap.size 9 1 v' rd.length (Q8 rd)∧Below W.heap.size W w'):=fun W hW=>j7f rd _ K W (hr.below hK hW) hlr
 have AL:=Ld hal;clear he hr hK hal;go_enter func83,ntmps83;go_upto_region 1 with fail;obtain⟨X,hX⟩:∃ X,X=w.heap.size:=⟨_,rfl⟩;rw[← hX] at XB;rw[← hX];generalize w.alloc (.cells #[.slice aoe es.length cape,.slice aor rd.length capr] 26)=w1 at AL XB ⊢;clear hX;have HSW:Hid (∀ W,Below w1.heap.size w1.drew W→(W.cell? ⟨X,0,none⟩=some (.slice aoe es.length cape)∧W.cell? ⟨X,1,none⟩=some (.slice aor rd.length capr))):=fun W hW=>⟨Blk.cell (Blk.below (Blk.drew XB.out) hW XB.out.lt) 0,Blk.cell (Blk.below (Blk.drew XB.out) hW XB.out.lt) 1⟩
 have FIN:Hid (∀ w5 w6 ao5 cap5 ao6 cap6,Below w1.heap.size w1.drew w5→w5.ownsRow w1.drew.heap.size 44 5 (.slice ao5 es.length cap5) es.length (y9 es)→Below w5.heap.size w5 w6→w6.ownsRow w5.heap.size 9 1 (.slice ao6 rd.length cap6) rd.length (Q8 rd)→KpI w (w6.alloc (.cells #[.slice ao5 es.length cap5,.slice ao6 rd.length cap6] 137)) w6.heap.size (.slice ao5 es.length cap5) (.slice ao6 rd.length cap6) es rd):=by
  intro w5 w6 ao5 cap5 ao6 cap6 hb5 ho5 hb6 ho6;have h1:=AL.out.size;have h5:=hb5.size;have h5':w1.heap.size≤w5.heap.size:=h5;have h6:=hb6.size;have a6:=(Below.refl w6.heap.size w6).alloc (Lr) (.cells #[.slice ao5 es.length cap5,.slice ao6 rd.length cap6] 137);have b5:Below w.heap.size w w5:=AL.out.drew.trans (hb5.mono AL.out.size);have b6:Below w.heap.size w w6:=b5.trans (hb6.mono b5.size);have b7:Below w.heap.size w (w6.alloc (.cells #[.slice ao5 es.length cap5,.slice ao6 rd.length cap6] 137)):=b6.trans (a6.mono b6.size);have l5:=ho5.lt;have l6:=ho6.lt;refine⟨by omega,Blk.new w6 _ _,b7,?_,?_,fun e=>?_,fun e=>?_,fun g q1 q2=>?_⟩
  ·exact V7 (own_base ho5 h1) (fun g q=>(a6.block g (by have:=(l5 g q).2;omega)).trans (hb6.block g (l5 g q).2))
  ·exact V7 (own_base ho6 (by omega)) (fun g q=>a6.block g (l6 g q).2)
  ·have:=(l5 _ e).2;omega
  ·have:=(l6 _ e).2;omega
  ·have:=(l5 _ q1).2;have:=(l6 _ q2).1;omega
 go_region_held3 (fun W=>W.cell? ⟨X,0,none⟩=some (.slice aoe es.length cape)∧W.cell? ⟨X,1,none⟩=some (.slice aor rd.length capr)) (first
  | exact HSW.out _ (hB6.alloc hB6.size _)
  | exact HSW.out _ hB6
  | exact HSW.out _ hb5
  | exact HSW.out _ (Below.refl _ _)) (first
  | (go_at_call 140;(with_reducible refine(HCE.out _ ?_).mono ?_);exact AL.out.drew;rintro e w5 ⟨v5,rfl,ho5,hb5x⟩;have hb5:Below w1.heap.size w1.drew w5:=hb5x;obtain⟨ao5,cap5,e5⟩:=Z9 ho5;subst e5)
  | (go_at_call 141;(with_reducible refine(HCS.out _ ?_).mono ?_);exact AL.out.drew.trans (hb5.mono AL.out.size);rintro e w6 ⟨v6,rfl,ho6,hb6⟩;obtain⟨ao6,cap6,e6⟩:=Z9 ho6;subst e6;have hB6:Below w1.heap.size w1.drew w6:=hb5.trans (hb6.mono (show w1.heap.size≤w5.heap.size from hb5.size))))
 all_goals
  have R:=Ld (FIN.out _ _ _ _ _ _ hb5 ho5 hb6 ho6);clear ho5 ho6;go_wp2_with fail;go_ret;exact⟨_,_,_,rfl,R.out⟩
theorem eg_place (args:Array Value) (w:World):(callFunc 147 args).run prog w=.ok (.enter 147 args) w:=Z7 func147 (by kernel_rfl) rfl _ _
theorem j0q (X:Nat) (id:List UInt8) (l:List Fd.En) (w:World) (hX:X < w.heap.size) (hc:w.cell? ⟨X,0,none⟩=some (.string (st id))):AsksE 147 #[.pointer (some ⟨X,0,none⟩)] (fun z=>z.id == id) l w:=by
 intro w1 hb z _;have c0:w1.cell? ⟨X,0,none⟩=some (.string (st id)):=(hb.cell (p:=⟨X,0,none⟩) hX).trans hc;have hX1:X < w1.heap.size:=Nat.lt_of_lt_of_le hX hb.size;unfold enAg;go_enter func147,ntmps147;go_wp2_with fail;go_ret;exact⟨Z8 (by rw[show (st z.id).toList=z.id from Lib.toList_data _,show (st id).toList=id from Lib.toList_data _]),(Below.refl _ w1).alloc (Lr) _⟩
theorem q9r {w wx:World} {M:Nat} {ue ur:Value} {es:List Fd.En} {rd:List (List UInt8)} (h:KpI w wx M ue ur es rd) (id:List UInt8) (hl:es.length≤1000) :
  Calls prog 86 #[.pointer (some ⟨M,0,none⟩),.string (st id)] wx fun e w'=>Below wx.heap.size wx w'∧∃ i:Int,e=.returned (.int .i64 i)∧((i = -1∧∀ x ∈ es,(x.id == id)=false)∨∃ (j:Nat) (hj:j < es.length),i=(j:Int)∧(es[j].id == id)=true∧∀ x ∈ es.take j,(x.id == id)=false):=by
 have hmf:∀ (fn:Fn) (first cap:Array Value) (w:World),(Instr.makeFunc fn first cap).run prog w=.ok (.func fn first cap) w:=fun _ _ _ _=>rfl
 obtain⟨ao,cap,hu⟩:=Z9 h.oe;subst hu;have hal:=(Below.refl wx.heap.size wx).alloc (Lr) (.cells #[.string (st id)] 9);have H1:=h.below hal;have p0:(wx.alloc (.cells #[.string (st id)] 9)).cell? ⟨M,0,none⟩=some (.slice ao es.length cap):=Blk.cell H1.mb 0;have XB:=Blk.new wx 9 #[.string (st id)];have HI:=Ld (z8s 147 #[.pointer (some ⟨wx.heap.size,0,none⟩)] (fun z=>z.id == id) eg_place es _ _ (wx.alloc (.cells #[.string (st id)] 9)) H1.ents (fun b q=>q.1) (by omega) (j0q wx.heap.size id es _ XB.lt (Blk.cell XB 0)));have AL:=Ld hal;clear hal H1 XB h;go_enter func86,ntmps86;go_wp2_with fail;refine HI.out.mono ?_;rintro e w2 ⟨hb2,i,rfl,hi⟩;have B2:=Ld (AL.out.trans (hb2.mono AL.out.size));have HR:=Ld hi;clear hb2 hi HI;go_wp2_with fail;go_ret;exact⟨B2.out,i,rfl,HR.out⟩
end Go.Proofs.YtjonkbdldebkiaaGreatDoor
namespace Go
section
variable {P : Program} {ops : Array Oper} {Q : Exit→Act→World→Prop} {md : Region.Mode} {S : World→Prop} {T : Nat}
def j8g (P:Program) (md:Region.Mode) (ops:Array Oper) (Q:Exit→Act→World→Prop) (S:World→Prop) (T:Nat):Nat→Array Bool→Act→World→Prop
 | 0,listed,a,w=>Region.ready md ops listed=[]∧Q .normal a w
 | n + 1,listed,a,w=>(Region.ready md ops listed=[]→Q .normal a w)∧∀ i ∈ Region.ready md ops listed,wpOp P ops Q i (fun a' w'=>(i ≠ T→S w')∧j8g P md ops Q S T n (listed.setIfInBounds i true) a' w') a w
theorem j8h:∀ (n:Nat) (listed:Array Bool) (a:Act) (w:World),j8g P md ops Q S T n listed a w→wpAny P md ops Q n listed a w
 | 0,_,_,_,h=>h
 | n + 1,_,_,_,h=>⟨h.1,fun i hi=>wpOp_mono (fun a' w' k=>j8h n _ a' w' k.2) (h.2 i hi)⟩
def j8l (md:Region.Mode) (ops:Array Oper) (T i:Nat):Bool:=match ops[T]? with | none=>true | some o=>o.after.any fun e=>Region.binds md e && e.on == i
theorem j8j {i:Nat} {oi:Oper} {v:Value} (hi:ops[i]? = some oi) (hsel:∀ (j:Nat) (o:Oper) cs b,ops[j]? = some o→o.op ≠ .select cs b)
  (hQ:∀ c a w,Q (.panic c) (a.put oi.dst v) w→Q (.panic c) a w) (hT:j8l md ops T i=true) (n:Nat) :
  ∀ (listed:Array Bool) (a:Act) (w:World),
   (∀ j oj,ops[j]? = some oj→j ≠ i→listed.getD j true=false→(∀ e ∈ oj.after,Region.binds md e=true→e.on ≠ i)→oi.apart ops oj=true) →
   i ∈ Region.ready md ops listed→YieldsIf P ops S oi v a→S w →
   j8g P md ops Q S T n (listed.setIfInBounds i true) (a.put oi.dst v) w→j8g P md ops Q S T (n + 1) listed a w:=by
 induction n with
 | zero =>
  intro listed a w _ hr hy hS H;refine⟨fun e=>(by rw[e] at hr;cases hr),fun j hj=>?_⟩
  by_cases e:j=i
  ·subst e;exact hy.wpOp hi hS ⟨fun _=>hS,H⟩
  ·have k:=ready_mono hj e
   rw[H.1] at k
   cases k
 | succ n ih =>
  intro listed a w hf hr hy hS H;refine⟨fun e=>(by rw[e] at hr;cases hr),fun j hj=>?_⟩
  by_cases e:j=i
  ·subst e;exact hy.wpOp hi hS ⟨fun _=>hS,H⟩
  obtain⟨hun,oj,hoj,hdone⟩:=mem_ready.1 hj;have hno:∀ x ∈ oj.after,Region.binds md x=true→x.on ≠ i:=by
   intro x hx hb hxi;have h1:=hdone x hx hb;have h0:=(mem_ready.1 hr).1;rw[hxi] at h1
   rcases Nat.lt_or_ge i listed.size with q | q
   ·simp[q] at h0 h1;rw[h0] at h1;cases h1
   ·simp[Array.getElem?_eq_none q] at h1
  have hjT:j ≠ T:=by
   intro q;subst q;unfold j8l at hT;rw[hoj] at hT;simp only [Array.any_eq_true] at hT;obtain⟨x,hx,hb⟩:=hT;rw[Bool.and_eq_true,beq_iff_eq] at hb;exact hno _ (Array.getElem_mem hx) hb.1 hb.2
  have h2:=wpOp_putIf hoj (hf j oj hoj e hun hno) (fun cs b=>hsel i oi cs b hi) (fun cs b=>hsel j oj cs b hoj) hQ hy (H.2 j (ready_mono hj e));refine wpOp_mono (fun a' w' h3=>⟨fun _=>h3.2.1 hjT,ih (listed.setIfInBounds j true) a' w' (fun k ok hk hki hkun hkno=>hf k ok hk hki ?_ hkno) (ready_mono hr (Ne.symm e)) h3.1 (h3.2.1 hjT) ?_⟩) h2
  ·by_cases q:j=k
   ·subst q;exact hun
   ·rwa [getD_set_ne true q] at hkun
  ·rw[Array.setIfInBounds_comm _ _ e]
   exact h3.2.2
def takeB (md:Region.Mode) (ops:Array Oper) (T:Nat) (listed:Array Bool) (i:Nat):Bool:=Region.noSelect ops && Region.free md ops listed i && (Region.ready md ops listed).contains i && j8l md ops T i
theorem j8e (i d:Nat) (v:Value) {oi:Oper} {n:Nat} {listed:Array Bool} {a:Act} {w:World} (hi:ops[i]? = some oi) (hd:oi.dst=some d) (hB:takeB md ops T listed i=true)
  (hQ:∀ c a w,Q (.panic c) (a.put (some d) v) w→Q (.panic c) a w) (hy:YieldsIf P ops S oi v a) (hS:S w)
  (h:j8g P md ops Q S T n (listed.setIfInBounds i true) (a.put (some d) v) w):j8g P md ops Q S T (n + 1) listed a w:=by
 unfold takeB at hB;rw[Bool.and_eq_true,Bool.and_eq_true,Bool.and_eq_true] at hB;rw[← hd] at hQ h;exact j8j hi (Region.noSelect_spec hB.1.1.1) hQ hB.2 n listed a w (Region.free_spec hi hB.1.1.2) (by simpa using hB.1.2) hy hS h
theorem j8f {i:Nat} {o:Oper} {n:Nat} {listed:Array Bool} {a:Act} {w:World} (hr:Region.ready md ops listed=[i]) (ho:ops[i]? = some o) (hg:o.guard=none) (hiT:i ≠ T)
  (h:∀ K':Act→World→Prop,Shut (∀ a w,S w→j8g P md ops Q S T n (listed.setIfInBounds i true) a w→K' a w)→Oper.wp P o a w K' Q):j8g P md ops Q S T (n + 1) listed a w:=by
 refine⟨fun e=>(by rw[hr] at e;cases e),fun j hj=>?_⟩;rw[hr] at hj;have hj:j=i:=by simpa using hj
 subst hj;refine wpOp_step ho fun K' hK=>?_
 have hw:Region.wanted o (yielded ops a.tmps)=true:=by unfold Region.wanted;rw[hg]
 rw[if_pos hw];exact h K' (fun a w hS hh=>hK a w ⟨fun _=>hS,hh⟩)
theorem j8k {o:Oper} {n:Nat} {listed:Array Bool} {a:Act} {w:World} (hr:Region.ready md ops listed=[T]) (ho:ops[T]? = some o) (hg:o.guard=none)
  (hz:Region.ready md ops (listed.setIfInBounds T true)=[])
  (h:Oper.wp P o a w (fun a' w'=>Q .normal a' w') Q):j8g P md ops Q S T (n + 1) listed a w:=by
 refine⟨fun e=>(by rw[hr] at e;cases e),fun j hj=>?_⟩;rw[hr] at hj;have hj:j=T:=by simpa using hj
 subst hj;refine wpOp_step ho fun K' hK=>?_
 have hw:Region.wanted o (yielded ops a.tmps)=true:=by unfold Region.wanted;rw[hg]
 rw[if_pos hw];refine Oper.wp_mono (fun a' w' q=>hK a' w' ⟨fun e=>absurd rfl e,?_⟩) h
 cases n with
 | zero=>exact⟨hz,q⟩
 | succ n=>exact⟨fun _=>q,by rw[hz];simp⟩
theorem j8i {id:Nat} {a:Act} {w:World} (S:World→Prop) (T:Nat) (hm:P.follows .mixedOrders=true)
  (h:j8g P .any ops Q S T ops.size (Array.replicate ops.size false) a w.drew):(Code.region id ops true).wp P Q a w:=wp_region_any hm (j8h _ _ _ _ h)
end
section
variable {P : Program} {ops : Array Oper} {Q : Exit→Act→World→Prop} {md : Region.Mode} {S : World→Prop}
def waits (md:Region.Mode) (ops:Array Oper) (i:Nat):List Nat:=match ops[i]? with | none=>[] | some o=>(o.after.toList.filter fun e=>Region.binds md e).map (·.on)
theorem Oper.wp_value {o:Oper} {a:Act} {w:World} {K:Act→World→Prop} (v:Value) (w':World) (h:(execOp a.eval o).run P w=.ok (.value v) w') (hK:K (a.put o.dst v) w'):Oper.wp P o a w K Q:=by
 unfold Oper.wp;rw[h];exact hK
theorem Oper.wp_enter {o:Oper} {a:Act} {w:World} {K:Act→World→Prop} (f:FuncId) (args:Array Value) (h:(execOp a.eval o).run P w=.ok (.enter f args) w) (hK:Calls P f args w fun e w'=>∃ v,e=.returned v∧K (a.put o.dst v) w'):Oper.wp P o a w K Q:=by
 unfold Oper.wp;rw[h];refine Calls.mono hK ?_;rintro e w' ⟨v,rfl,hv⟩;exact hv
end
end Go
