/- Cells of attributes and trees, each by itself. -/
import Derived.Test.YtagleefekmdldaaGreatDoorYRsB
import Derived.Test.YtagleefekmdldaaGreatDoorYMkClean4
import Derived.Deep.AppendSrc
import Derived.Test.YtagleefekmdldaaGreatDoorYMkTok5
import Derived.Test.YtagleefekmdldaaGreatDoorYMkSame
set_option linter.unusedVariables false
set_option linter.unusedSimpArgs false
set_option maxHeartbeats 8000000
set_option maxRecDepth 100000
namespace Go.Proofs.YtagleefekmdldaaGreatDoor
open Go.RowKit
end Go.Proofs.YtagleefekmdldaaGreatDoor
namespace Go.Proofs.YtagleefekmdldaaGreatDoor
open Go.Proofs.Tryz Go.RowKit
theorem q7e (l:List Mk.At):∀ u ∈ Z5 l,u.oneCell'=true:=by
 intro u hu;unfold Z5 at hu;rw[List.mem_flatMap] at hu;obtain⟨x,_,hx⟩:=hu;simp at hx
 rcases hx with rfl | rfl <;> rfl
theorem addr_add (g o i:Nat):(⟨g,o,none⟩:Addr).add i=⟨g,o + i,none⟩:=by unfold Addr.add;split <;> simp_all
theorem q1t (W:World) (q:Nat) (ao:Option Addr) (c:Nat):(Builtin.append_ #[36,36] 36 #[.slice (some ⟨q,0,none⟩) 0 0,.slice ao 0 c]).run prog W=.ok (.slice (some ⟨q,0,none⟩) 0 0) W:=by
 cases ao <;> kernel_rfl
theorem grownBy_refl (w:World) (r:Option Nat):w.grownBy w r:=⟨rfl,rfl,rfl,Lr,fun _ _ _=>rfl⟩
theorem OwnF.more {w:World} {B:Nat} {K K':Nat→Prop} {v:Value} {f:Mk.Fo} {xs:List Value} (h:OwnF w B K v f xs) (hk:∀ b,K b→K' b) (hn:∀ g,v.ownBlock=some g→¬ K' g) (hl:∀ b,K' b→b < w.heap.size):OwnF w B K' v f xs :=
 ⟨h.own,h.cells.frame (fun b hb=>⟨hk b hb,rfl⟩),hn,hl⟩
end Go.Proofs.YtagleefekmdldaaGreatDoor
namespace Mk
namespace Fo
def cat:Fo→Fo→Fo
 | nil,g=>g
 | node n a t k r,g=>node n a t k (cat r g)
theorem j3x:∀ f:Fo,cat f nil=f
 | nil=>rfl
 | node n a t k r=>by show node n a t k (cat r nil)=_;rw[j3x r]
theorem j3w:∀ f g h:Fo,cat (cat f g) h=cat f (cat g h)
 | nil,_,_=>rfl
 | node n a t k r,g,h=>by show node n a t k (cat (cat r g) h)=node n a t k (cat r (cat g h));rw[j3w r g h]
theorem q7j:∀ f g:Fo,(cat f g).len=f.len + g.len
 | nil,g=>by show g.len=0 + g.len;omega
 | node n a t k r,g=>by
  have:=q7j r g;show (cat r g).len + 1=r.len + 1 + g.len;omega
end Fo
end Mk
namespace Go.Proofs.YtagleefekmdldaaGreatDoor
open Go.Proofs.Tryz Go.RowKit
theorem Y0.cat {w:World} {K:Nat→Prop} {g:Mk.Fo} {ys:List Value} (hg:Y0 w K g ys):∀ (f:Mk.Fo) (xs:List Value),Y0 w K f xs→Y0 w K (f.cat g) (xs++ys)
 | .nil,xs,h=>by
  have h:xs=[]:=h;subst h;exact hg
 | .node n' a' t' k' r,xs,h=>by
  obtain⟨va',ao',cap',zs',ys',g1,g2,g3,g4,g5,g6⟩:=h;have:=Y0.cat hg r ys' g6;rw[g1,List.append_assoc];exact⟨va',ao',cap',zs',_,rfl,g2,g3,g4,g5,this⟩
def KKo (B:Nat) (w:World) (v:Value) (b:Nat):Prop:=B≤b∧b < w.heap.size∧v.ownBlock ≠ some b
theorem OwnF.cat1 {B:Nat} {wr w8 w9:World} {u v':Value} {f:Mk.Fo} {xs:List Value} (h:OwnF wr B (KKo B wr u) u f xs) (hs:wr.heap.size≤w8.heap.size) (hb:Below wr.heap.size wr w8) {n:List UInt8} {a:List Mk.At} {t:List UInt8} {k:Mk.Fo} {va:Value} {ao:Option Addr} {cap:Nat}
  (h2:AtsV w8 (fun b=>wr.heap.size≤b∧b < w8.heap.size) va a) (h3:FoV w8 (fun b=>wr.heap.size≤b∧b < w8.heap.size) (.slice ao k.len cap) k) (hB:B≤wr.heap.size)
  (hown:w9.ownsRow B 38 4 v' (f.len + 1) (xs++[.string (st n),va,.string (st t),.slice ao k.len cap])) (hgr:w8.grownBy w9 u.ownBlock) (hf:v'.ownBlock=u.ownBlock∨v'.ownBlock=some w8.heap.size) :
  OwnF w9 B (KKo B w9 v') v' (f.cat (.node n a t k .nil)) (xs++[.string (st n),va,.string (st t),.slice ao k.len cap]):=by
 obtain⟨ao2,cap2,zs,e,q1,q2,q3⟩:=h3;injection e with e1 _ e3;subst e1 e3;have ku:∀ q,u.ownBlock=some q→q < wr.heap.size:=fun q hq=>(h.own.lt q hq).2
 have old:∀ b,KKo B wr u b→KKo B w9 v' b∧w9.heap[b]? = wr.heap[b]?:=by
  rintro b ⟨c1,c2,c3⟩;refine⟨⟨c1,Nat.lt_of_lt_of_le c2 (Nat.le_trans hs hgr.size),?_⟩,(hgr.block b (Nat.lt_of_lt_of_le c2 hs) (fun e=>c3 e.symm)).trans (hb.block b c2)⟩
  rcases hf with e | e
  ·rw[e];exact c3
  ·rw[e];intro q;injection q with q;omega
 have new:∀ b,(wr.heap.size≤b∧b < w8.heap.size)→KKo B w9 v' b∧w9.heap[b]? = w8.heap[b]?:=by
  rintro b ⟨c1,c2⟩;refine⟨⟨Nat.le_trans hB c1,Nat.lt_of_lt_of_le c2 hgr.size,?_⟩,hgr.block b c2 (fun e=>by have:=ku b e.symm;omega)⟩
  rcases hf with e | e
  ·rw[e];intro q;have:=ku b q;omega
  ·rw[e];intro q;injection q with q;omega
 refine⟨by rw[Mk.Fo.q7j];exact hown,Y0.cat (g:=.node n a t k .nil) (ys:=[.string (st n),va,.string (st t),.slice ao k.len cap]) (show Y0 w9 (KKo B w9 v') (.node n a t k .nil) _ from ⟨va,ao,cap,zs,[],rfl,h2.frame new,q1.frame new,q3,q2.frame new,rfl⟩) f xs (h.cells.frame old),fun g hg hk=>hk.2.2 hg,fun b hb=>hb.2.1⟩
theorem z94 {P:Program} {w:World} {ops:Array Oper} {rest:List Oper} {o:Oper} {a:Act} {Q:Exit→Act→World→Prop} (hgd:o.guard=none) (s x:Operand) (t:TypeId)
  (ho:o.op=.call { callee:=.builtin .append,args:=#[s,x],argTypes:=#[t,t] })
  (base:Nat) (e:TypeId) (i:TypeInfo) (z:Value) (size bytes:Nat) (ht:P.underlying t=some (.slice e)) (hi:P.info? e=some i) (hz:i.zero=some z)
  (hsize:i.size=size) (hby:i.bytes=bytes) (hzs:z.cells.size=size) (hsz:0 < size)
  (q:Nat) (hs:a.eval s=.slice (some ⟨q,0,none⟩) 0 0) (hown:w.ownsRow base e size (.slice (some ⟨q,0,none⟩) 0 0) 0 [])
  (ao:Option Addr) (m c:Nat) (news:List Value) (hx:a.eval x=.slice ao m c) (hl:news.length=m * size) (hnews:m=0∨∃ ad,ao=some ad∧∀ j u,news[j]? = some u→w.cell? (ad.add j)=some u) (h1:∀ u ∈ news,u.oneCell'=true)
  (hr0:(Builtin.append_ #[t,t] o.type #[.slice (some ⟨q,0,none⟩) 0 0,.slice ao 0 c]).run P w=.ok (.slice (some ⟨q,0,none⟩) 0 0) w) (h63:m≤maxLen) (hbytes:m * bytes≤140737488355328) (hbase:base≤w.heap.size)
  (h:∀ v' w',w'.ownsRow base e size v' m news→w.grownBy w' (some q)→(v'.ownBlock=some q∨v'.ownBlock=some w.heap.size)→wpList P ops Q rest (a.put o.dst v') w'):wpList P ops Q (o :: rest) a w:=by
 by_cases hm:m=0
 ·subst hm
  have hnil:news=[]:=List.eq_nil_of_length_eq_zero (by rw[hl,Nat.zero_mul]);subst hnil;refine wpList_plain hgd fun K hK=>?_
  have hfin:=hK _ _ (h _ w hown (grownBy_refl w _) (.inl rfl));unfold Oper.wp execOp;simp only [ho,resolve,invoke,builtin,Sem.run_bind,Sem.run_pure,Result.andThen_ok,List.map_toArray,List.map_cons,List.map_nil,hs,hx,hr0];exact hfin
 ·rcases hnews with hn | ⟨ad,rfl,hn⟩
  ·exact absurd hn hm
  ·exact Q9 hgd s x t ho base e i z size bytes ht hi hz hsize hby hzs hsz _ 0 [] hs hown ad m c news hx hl hn h1 (Nat.pos_of_ne_zero hm) (by rw[Nat.zero_add];exact h63) (by rw[Nat.zero_add];exact hbytes) hbase
    (fun v' w' k1 k2 k3=>h v' w' (by rw[Nat.zero_add,List.nil_append] at k1;exact k1) k2 k3)
theorem j5g (N:Nat):∀ (f:Mk.Fo),f.bulk < N→f.bulk≤1048576→∀ (v:Value) (K:Nat→Prop) (w:World),FoV w K v f→(∀ b,K b→b < w.heap.size) →
  Calls prog 8 #[v] w fun e w'=>∃ v',e=.returned v'∧FoV w' (fun b=>w.heap.size≤b∧b < w'.heap.size) v' f∧Below w.heap.size w w':=by
 induction N with
 | zero=>intro f hN;omega
 | succ N ih =>
 intro f hN hf v K w hv hK;obtain⟨ao,cap,hv1,hlm,hat⟩:=hv.get;subst hv1;unfold maxLen at hlm;have HAT:=Ld hat
 have IH:=Ld ih;have HK:=Ld hK;have hgl:=Mk.Fo.z0m f;clear hat ih hv hK;go_enter func8,ntmps8;go_wp2_with fail
 go_loopw [3,4] (fun u i wr=>∃ (k:Nat) (f':Mk.Fo) (xs:List Value),k≤f.len∧i=.int .i64 k∧f'.len≤k∧Hid (f'.cat (f.drop k)=f)∧Hid (OwnF wr w.heap.size (KKo w.heap.size wr u) u f' xs)∧Hid (Below w.heap.size w wr)) (fun _ i _=>f.len - (intOf i).toNat)
 case atStart=>exact⟨0,.nil,[],Nat.zero_le _,rfl,Nat.zero_le _,by show _=_;rw[Mk.Fo.drop_zero];rfl,⟨World.ownsRow_nil _ _ _ _,rfl,(fun _ h=>by cases h),fun _ h=>h.2.1⟩,Below.refl _ _⟩
 case round =>
  obtain⟨k,f',xs,hk,rfl,hfl,HC,OF,BL⟩:=hrel;have hsz:=BL.out.size
  by_cases hlt:k < f.len
  ·obtain⟨n,a,t,kk,r,hd,hd1⟩:=Mk.Fo.z1x f k hlt
   obtain⟨g,o,aoa,capa,aok,capk,rfl,hKg,c0,c1,c2,c3,hta,hvk⟩:=HAT.out k n a t kk r hd;have hgw:=HK.out g hKg;rw[← BL.out.cell (p:=⟨g,_,none⟩) hgw] at c0 c1 c2 c3;have hdb:(f.drop k).bulk=1 + n.length + t.length + Mk.Fo.atB a + kk.bulk + r.bulk:=by rw[hd];rfl
   have hdb2:=Mk.Fo.z0s f k;have hab:=Mk.z1l a;have HC2:Hid ((f'.cat (.node n a t kk .nil)).cat (f.drop (k + 1))=f):=by show _=_;rw[Mk.Fo.j3w,hd1];show f'.cat (.node n a t kk r)=f;rw[← hd];exact HC.out
   have HTA:=Ld (hta.below HK.out BL.out);have HVK:=Ld (hvk.below HK.out BL.out);have HKR:Hid (∀ b,K b→b < wr.heap.size):=fun b hb=>Nat.lt_of_lt_of_le (HK.out b hb) hsz
   obtain⟨ao0,cap0,hu0⟩:=Y1 OF.out.own;have hal:=(Below.refl wr.heap.size wr).alloc (Lr) (.cells #[.string (st n),.slice aoa a.length capa,.string (st t),.slice aok kk.len capk] 38);have PB:=Ld (Blk.new wr 38 #[.string (st n),.slice aoa a.length capa,.string (st t),.slice aok kk.len capk]);have HAL:=Ld hal;have hal8:a.length≤1048576:=by omega
   have hkb:kk.bulk < N:=by omega
   have hkb2:kk.bulk≤1048576:=by omega
   have hfb:f'.len≤1048576:=by omega
   clear hal HAT hta hvk HC hd hd1 hdb hdb2 hab hf hN;subst hu0;go_upto_region 6 with fail;generalize hw1:wr.alloc (.cells #[.string (st n),.slice aoa a.length capa,.string (st t),.slice aok kk.len capk] 38)=w1 at PB HAL ⊢;clear hw1 c0 c1 c2 c3;have p1:(w1.alloc (.cells #[] 73)).cell? ⟨wr.heap.size,1,none⟩=some (.slice aoa a.length capa):=Blk.cell (PB.out.alloc _) 1;have hg1:=PB.out.lt;have beA:=(Below.refl w1.heap.size w1).alloc (Lr) (.cells #[] 73);have owA:(w1.alloc (.cells #[] 73)).ownsRow w1.heap.size 73 2 (.slice (some ⟨w1.heap.size,0,none⟩) 0 0) 0 []:=⟨rfl,.inr ⟨w1.heap.size,0,#[],rfl,Lr,Blk.new w1 _ _,Lr,Nat.zero_le _,rfl,rfl⟩⟩;have hnw:a.length=0∨∃ ad:Addr,aoa=some ad∧∀ (i:Nat) (u:Value),(Z5 a)[i]? = some u→(w1.alloc (.cells #[] 73)).cell? (ad.add i)=some u:=by
    obtain⟨ao',cap',z1,z2,_⟩:=HTA.out;injection z1 with e1 e2 e3;subst e1
    rcases z2 with z2 | ⟨ga,oa,z3,z4,z5,_⟩
    ·left
     have:=z04 a;rw[z2] at this;simp at this;omega
    ·refine .inr ⟨⟨ga,oa,none⟩,z3,fun i u q=>?_⟩
     rw[addr_add,← z5 i u q];exact(beA.mono PB.out.lt |>.cell (p:=⟨ga,oa + i,none⟩) (Nat.lt_succ_of_lt (HKR.out ga z4))).trans (HAL.out.cell (p:=⟨ga,oa + i,none⟩) (HKR.out ga z4))
   have h1c:=q7e a;have hl2:=z04 a;obtain⟨i0,hi,hz0,hz1,hz2⟩:=info_parts Tryz.infoAttr;go_wp2_with (at_builtin;refine z94 rfl _ _ 36 rfl w1.heap.size 73 i0 (.agg #[.string ⟨#[]⟩,.string ⟨#[]⟩]) 2 32 underlying36 hi hz0 hz1 hz2 rfl (by decide) w1.heap.size rfl owA aoa a.length capa (Z5 a) rfl hl2 hnw h1c (q1t _ _ _ _) (by unfold maxLen;omega) (by omega) beA.size ?_);intro v7 w7 ow7 hg7 hf7;obtain⟨ao7,cap7,rfl⟩:=Y1 ow7;have B7:=Ld (beA.grown hg7 beA.size (fun q hq=>by have hq:some (w1.heap.size)=some q:=hq;injection hq with hq;omega));have HA7:Hid (AtsV w7 (fun b=>wr.heap.size≤b∧b < w7.heap.size∧b ≠ wr.heap.size) (.slice ao7 a.length cap7) a):=AtsV.of_own ow7 fun q hq=>by have:=ow7.lt q hq;omega
   have P7:=Ld (PB.out.below B7.out PB.out.lt);have p7:w7.cell? ⟨wr.heap.size,1,none⟩=some (.slice aoa a.length capa):=P7.out.cell 1;have f7:=P7.out.frozen 1;have P8:Hid (Blk (w7.setCell ⟨wr.heap.size,1,none⟩ (.slice ao7 a.length cap7)) wr.heap.size 38 #[.string (st n),.slice ao7 a.length cap7,.string (st t),.slice aok kk.len capk]):=P7.out.set_ 1 _;have p8:(w7.setCell ⟨wr.heap.size,1,none⟩ (.slice ao7 a.length cap7)).cell? ⟨wr.heap.size,3,none⟩=some (.slice aok kk.len capk):=P8.out.cell 3;have B8:Hid (Below wr.heap.size wr (w7.setCell ⟨wr.heap.size,1,none⟩ (.slice ao7 a.length cap7))):=(HAL.out.trans (B7.out.mono HAL.out.size)).setCell (Lr) _;have A8:=Ld ((Ap.refl (fun b=>b=wr.heap.size) w7).setCell (p:=⟨wr.heap.size,1,none⟩) rfl (.slice ao7 a.length cap7));have HIH:=Ld (IH.out kk hkb hkb2 (.slice aok kk.len capk) K _ (HVK.out.below HKR.out B8.out) (fun b hb=>Nat.lt_of_lt_of_le (HKR.out b hb) B8.out.size));clear hf7 hg7 ow7 p1 hg1 beA owA hnw h1c hl2 hi hz0 hz1 hz2 B7 P7 HTA HVK HAL PB;go_wp2_with fail;refine HIH.out.mono ?_;clear HIH p7 f7 p8;generalize w7.setCell ⟨wr.heap.size,1,none⟩ (.slice ao7 a.length cap7)=w8 at P8 B8 A8 ⊢;rintro e w9 ⟨v9,rfl,hv9,hb9⟩;obtain⟨ao9,cap9,rfl,_⟩:=id hv9.get;have P9:=Ld (P8.out.below hb9 P8.out.lt);have p9:w9.cell? ⟨wr.heap.size,3,none⟩=some (.slice aok kk.len capk):=P9.out.cell 3;have f9:=P9.out.frozen 3;have P10:Hid (Blk (w9.setCell ⟨wr.heap.size,3,none⟩ (.slice ao9 kk.len cap9)) wr.heap.size 38 #[.string (st n),.slice ao7 a.length cap7,.string (st t),.slice ao9 kk.len cap9]):=P9.out.set_ 3 _;have B10:Hid (Below wr.heap.size wr (w9.setCell ⟨wr.heap.size,3,none⟩ (.slice ao9 kk.len cap9))):=(B8.out.trans (hb9.mono B8.out.size)).setCell (Lr) _;have A9:=Ld ((Ap.refl (fun b=>b=wr.heap.size) w9).setCell (p:=⟨wr.heap.size,3,none⟩) rfl (.slice ao9 kk.len cap9));have A10:=Ld (((A8.out.trans (Ap.of_below hb9)).trans A9.out));have HV10:Hid (FoV (w9.setCell ⟨wr.heap.size,3,none⟩ (.slice ao9 kk.len cap9)) (fun b=>wr.heap.size≤b∧b < (w9.setCell ⟨wr.heap.size,3,none⟩ (.slice ao9 kk.len cap9)).heap.size) (.slice ao9 kk.len cap9) kk):=hv9.frame fun b q=>⟨⟨Nat.le_trans B8.out.size q.1,Nat.lt_of_lt_of_le q.2 A9.out.size⟩,A9.out.block b q.2 (fun e=>by have:=P8.out.lt;omega)⟩
   have HA10:Hid (AtsV (w9.setCell ⟨wr.heap.size,3,none⟩ (.slice ao9 kk.len cap9)) (fun b=>wr.heap.size≤b∧b < (w9.setCell ⟨wr.heap.size,3,none⟩ (.slice ao9 kk.len cap9)).heap.size) (.slice ao7 a.length cap7) a):=HA7.out.frame fun b q=>⟨⟨q.1,Nat.lt_of_lt_of_le q.2.1 A10.out.size⟩,A10.out.block b q.2.1 q.2.2⟩
   clear hv9 hb9 P9 HA7 A8 A9 A10 P8;go_upto_region 8 with fail;clear p9 f9;generalize w9.setCell ⟨wr.heap.size,3,none⟩ (.slice ao9 kk.len cap9)=w10 at P10 B10 HV10 HA10 ⊢;have p0:w10.cell? ⟨wr.heap.size,0,none⟩=some (.string (st n)):=P10.out.cell 0;have p1:w10.cell? ⟨wr.heap.size,1,none⟩=some (.slice ao7 a.length cap7):=P10.out.cell 1;have p2:w10.cell? ⟨wr.heap.size,2,none⟩=some (.string (st t)):=P10.out.cell 2;have p3:w10.cell? ⟨wr.heap.size,3,none⟩=some (.slice ao9 kk.len cap9):=P10.out.cell 3;have al:=(Below.refl w10.heap.size w10).alloc (Lr) (.cells #[.string (st n),.slice ao7 a.length cap7,.string (st t),.slice ao9 kk.len cap9] 38);have B11:=Ld (B10.out.trans (al.mono B10.out.size));have HV11:=Ld (HV10.out.frame (K':=fun b=>wr.heap.size≤b∧b < (w10.alloc (.cells #[.string (st n),.slice ao7 a.length cap7,.string (st t),.slice ao9 kk.len cap9] 38)).heap.size) fun b q=>⟨⟨q.1,Nat.lt_of_lt_of_le q.2 al.size⟩,al.block b q.2⟩);have HA11:=Ld (HA10.out.frame (K':=fun b=>wr.heap.size≤b∧b < (w10.alloc (.cells #[.string (st n),.slice ao7 a.length cap7,.string (st t),.slice ao9 kk.len cap9] 38)).heap.size) fun b q=>⟨⟨q.1,Nat.lt_of_lt_of_le q.2 al.size⟩,al.block b q.2⟩);have ow11:=z0f OF.out.own (w':=w10.alloc (.cells #[.string (st n),.slice ao7 a.length cap7,.string (st t),.slice ao9 kk.len cap9] 38)) (fun g e=>B11.out.block g (OF.out.own.lt g e).2);have hBs:w.heap.size≤(w10.alloc (.cells #[.string (st n),.slice ao7 a.length cap7,.string (st t),.slice ao9 kk.len cap9] 38)).heap.size:=Nat.le_trans hsz B11.out.size;obtain⟨i0,hi,hz0,hz1,hz2⟩:=info_parts Tryz.infoNode;go_wp2_with (at_builtin;refine Q9 rfl _ _ 22 rfl w.heap.size 38 i0 (.agg #[.string ⟨#[]⟩,.slice none 0 0,.string ⟨#[]⟩,.slice none 0 0]) 4 80 underlying22 hi hz0 hz1 hz2 rfl (by decide) _ _ _ rfl ow11 ⟨w10.heap.size,0,none⟩ 1 1 [.string (st n),.slice ao7 a.length cap7,.string (st t),.slice ao9 kk.len cap9] rfl rfl (Y9 _ _ _) (by intro u hu;simp at hu;rcases hu with rfl | rfl | rfl | rfl <;> rfl) (by decide) (by unfold maxLen;omega) (by omega) hBs ?_);intro v' w12 hown' hgrow hfresh;have OF12:=Ld (OwnF.cat1 OF.out B11.out.size B11.out HA11.out HV11.out hsz hown' hgrow (hfresh.imp id (fun e=>by rw[e];simp)));have BL12:Hid (Below w.heap.size w w12):=(BL.out.trans (B11.out.mono hsz)).grown hgrow hBs (fun q hq=>(OF.out.own.lt q hq).1);have hcl:=Mk.Fo.q7j f' (.node n a t kk .nil);have hcl2:(Mk.Fo.node n a t kk .nil).len=1:=rfl;have hfl2:(f'.cat (.node n a t kk .nil)).len≤k + 1:=by omega
   clear hown' hgrow hfresh p0 p1 p2 p3 al ow11 hBs hcl hcl2 OF BL B11 HV11 HA11;go_wp2_with fail;go_roundw
   case rel=>exact⟨k + 1,_,_,by omega,by go_num,hfl2,HC2,OF12,BL12⟩
   case measure=>simp[intOf];omega
  ·have hke:k=f.len:=by omega
   rw[hke,Mk.Fo.z2v,Mk.Fo.j3x] at HC;clear HAT;go_wp2_with fail;go_ret;exact⟨_,rfl,by have:=OF.out.foV (K':=fun b=>w.heap.size≤b∧b < wr.heap.size) (fun b q=>⟨q.1,q.2.1⟩) (fun g e=>OF.out.own.lt g e);rw[HC.out] at this;exact this,BL.out⟩
end Go.Proofs.YtagleefekmdldaaGreatDoor
