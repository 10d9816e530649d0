/- Contracts of the feed reader's first, child and words. Condition: a tree of at most 16777216 nodes, attributes and letters. -/
import Derived.Test.YtjonkbdldebkiaaGreatDoorYWsG
import Derived.Test.YtjonkbdldebkiaaGreatDoorYWxG
import Derived.Test.YtjonkbdldebkiaaGreatDoorYMkTree2
import Derived.Test.YtjonkbdldebkiaaGreatDoorYWfN
set_option linter.unusedVariables false
set_option linter.unusedSimpArgs false
set_option maxHeartbeats 4000000
set_option maxRecDepth 100000
namespace Go.Proofs.YtjonkbdldebkiaaGreatDoor
open Go.RowKit
theorem q5o (args:Array Value) (w:World):(callFunc 69 args).run Tryz.prog w=.ok (.enter 69 args) w:=Z4 Tryz.func69 (by kernel_rfl) rfl _ _
theorem eg_child (args:Array Value) (w:World):(callFunc 117 args).run Tryz.prog w=.ok (.enter 117 args) w:=Z4 Tryz.func117 (by kernel_rfl) rfl _ _
theorem z9r (f:Mk.Fo) (K:Nat→Prop) (w:World):q55 69 #[] (fun _=>true) f K w:=by
 intro w1 hb j n a t kk r hd va vk hva hvk;obtain⟨aoa,capa,hva1,_⟩:=id hva;subst hva1;obtain⟨aok,capk,xsk,hvk1,_⟩:=id hvk;subst hvk1;unfold V4;go_enter Tryz.func69,Tryz.ntmps69;go_wp2_with fail;go_ret;exact⟨rfl,(Below.refl _ w1).alloc (Nat.le_refl _) _⟩
theorem j3e (g:FuncId) (eg:∀ args w,(callFunc g args).run Tryz.prog w=.ok (.enter g args) w) (title:List UInt8) (p:Fd.Nd→Bool) (T D:Nat) (f:Mk.Fo) (K:Nat→Prop) (w:World) (hT:T < w.heap.size) (hD:D < w.heap.size) (hTc:w.cell? ⟨T,0,none⟩=some (.string (st title))) (hDc:w.cell? ⟨D,0,none⟩=some (.func (.func g) #[] #[])) (hK:∀ b,K b→b < w.heap.size) (hdo:q55 g #[] p f K w) :
  q55 117 #[.pointer (some ⟨T,0,none⟩),.pointer (some ⟨D,0,none⟩)] (fun x=>decide (x.name=title) && p x) f K w:=by
 intro w1 hb j n a t kk r hd va vk hva hvk;have hst:∀ l:List UInt8,(st l).toList=l:=fun l=>Lib.toList_data _
 have d0:w1.cell? ⟨D,0,none⟩=some (.func (.func g) #[] #[]):=(hb.cell (p:=⟨D,0,none⟩) hD).trans hDc;have t0:w1.cell? ⟨T,0,none⟩=some (.string (st title)):=(hb.cell (p:=⟨T,0,none⟩) hT).trans hTc;have hT1:T < w1.heap.size:=Nat.lt_of_lt_of_le hT hb.size;have hD1:D < w1.heap.size:=Nat.lt_of_lt_of_le hD hb.size;obtain⟨aoa,capa,hva1,_⟩:=id hva;subst hva1;obtain⟨aok,capk,xsk,hvk1,_⟩:=id hvk;subst hvk1;have hal:=(Below.refl w1.heap.size w1).alloc (Nat.le_refl _) (.cells #[.string (st n),.slice aoa a.length capa,.string (st t),.slice aok kk.len capk] 53);have hb2:=hb.trans (hal.mono hb.size);have hK1:∀ b,K b→b < w1.heap.size:=fun b q=>Nat.lt_of_lt_of_le (hK b q) hb.size
 have hcall:=hdo _ hb2 j n a t kk r hd _ _ (hva.below hK1 hal) (hvk.below hK1 hal);show Calls _ _ _ _ (fun e w'=>e=.returned (.bool (decide (n=title) && p ⟨n,a,t,kk⟩))∧_);generalize p ⟨n,a,t,kk⟩=pb at hcall ⊢;have HC:=Lib.hid hcall;have AL:=Lib.hid hal;have NB:=Lib.hid (Blk.new w1 53 #[.string (st n),.slice aoa a.length capa,.string (st t),.slice aok kk.len capk]);have e0:(w1.alloc (.cells #[.string (st n),.slice aoa a.length capa,.string (st t),.slice aok kk.len capk] 53)).cell? ⟨D,0,none⟩=some (.func (.func g) #[] #[]):=(hal.cell (p:=⟨D,0,none⟩) hD1).trans d0;have e1:(w1.alloc (.cells #[.string (st n),.slice aoa a.length capa,.string (st t),.slice aok kk.len capk] 53)).cell? ⟨T,0,none⟩=some (.string (st title)):=(hal.cell (p:=⟨T,0,none⟩) hT1).trans t0;clear hcall hal hb2 hva hvk hdo hd hb d0 t0 hDc hTc;unfold V4 at HC ⊢
 by_cases hn:n=title
 ·have hnb:(n == title)=true:=by simpa using hn
  have hdn:decide (n=title)=true:=decide_eq_true hn;rw[hdn,Bool.true_and];clear hn hdn;go_enter Tryz.func117,Tryz.ntmps117;go_upto_region 1 with fail;generalize w1.alloc (.cells #[.string (st n),.slice aoa a.length capa,.string (st t),.slice aok kk.len capk] 53)=w2 at e0 e1 NB AL HC ⊢;have n0:w2.cell? ⟨w1.heap.size,0,none⟩=some (.string (st n)):=Blk.cell NB.out 0;have n1:w2.cell? ⟨w1.heap.size,1,none⟩=some (.slice aoa a.length capa):=Blk.cell NB.out 1;have n2:w2.cell? ⟨w1.heap.size,2,none⟩=some (.string (st t)):=Blk.cell NB.out 2;have n3:w2.cell? ⟨w1.heap.size,3,none⟩=some (.slice aok kk.len capk):=Blk.cell NB.out 3;go_wp2_with fail;refine HC.out.mono ?_;rintro e w3 ⟨rfl,hb3⟩;have B3:=Lib.hid (AL.out.trans (hb3.mono AL.out.size));clear hb3 e0 e1 n0 n1 n2 n3;go_wp2_with fail;go_ret;exact⟨rfl,B3.out⟩
 ·have hnb:(n == title)=false:=beq_eq_false_iff_ne.2 hn
  have hdn:decide (n=title)=false:=decide_eq_false hn;rw[hdn,Bool.false_and];clear hn hdn HC;go_enter Tryz.func117,Tryz.ntmps117;go_upto_region 1 with fail;generalize w1.alloc (.cells #[.string (st n),.slice aoa a.length capa,.string (st t),.slice aok kk.len capk] 53)=w2 at e0 e1 NB AL ⊢;have n0:w2.cell? ⟨w1.heap.size,0,none⟩=some (.string (st n)):=Blk.cell NB.out 0;have n1:w2.cell? ⟨w1.heap.size,1,none⟩=some (.slice aoa a.length capa):=Blk.cell NB.out 1;have n2:w2.cell? ⟨w1.heap.size,2,none⟩=some (.string (st t)):=Blk.cell NB.out 2;have n3:w2.cell? ⟨w1.heap.size,3,none⟩=some (.slice aok kk.len capk):=Blk.cell NB.out 3;go_wp2_with fail;go_ret;exact⟨rfl,AL.out⟩
theorem q55.up {g:FuncId} {lb:Array Value} {q:Fd.Nd→Bool} {f:Mk.Fo} {K:Nat→Prop} {w w':World} (h:q55 g lb q f K w) (hb:Below w.heap.size w w'):q55 g lb q f K w':=fun w1 h1=>h w1 (hb.trans (h1.mono hb.size))
def NdV (w:World) (K:Nat→Prop) (va vk:Value) (x:Fd.Nd):Prop:=AtsV w K va x.ats∧FoV w K vk x.kids
theorem NdV.none (w:World) (K:Nat→Prop):NdV w K (.slice none 0 0) (.slice none 0 0) Fd.Nd.none:=⟨AtsV.nil _ _,⟨_,0,[],rfl,.inl rfl,rfl,Nat.zero_le _⟩⟩
def childR (title:List UInt8) (p:Fd.Nd→Bool) (k:Mk.Fo):Fd.Nd:=(Fd.z3g title p k).getD Fd.Nd.none
theorem q1j (g:FuncId) (eg:∀ args w,(callFunc g args).run Tryz.prog w=.ok (.enter g args) w) (n title:List UInt8) (a:List Mk.At) (t:List UInt8) (va vk:Value) (k:Mk.Fo) (p:Fd.Nd→Bool) (K:Nat→Prop) (w:World) (hva:∃ ao cap,va=.slice ao a.length cap) (hvk:FoV w K vk k) (hK:∀ b,K b→b < w.heap.size) (hl:k.bulk≤33554432) (hdo:q55 g #[] p k K w) :
  Calls Tryz.prog 68 #[V4 n va t vk,.string (st title),.func (.func g) #[] #[]] w fun e w'=>Below w.heap.size w w'∧∃ va' vk',e=.returned (.tuple #[V4 (childR title p k).name va' (childR title p k).text vk',.bool (Fd.z3g title p k).isSome])∧NdV w' K va' vk' (childR title p k):=by
 have hmf:∀ (fn:Fn) (first cap:Array Value) (w:World),(Instr.makeFunc fn first cap).run Tryz.prog w=.ok (.func fn first cap) w:=fun _ _ _ _=>rfl
 obtain⟨g0,o,cap,hv1,hlen,hat⟩:=hvk.at_
 obtain⟨aoa,capa,rfl⟩:=hva;obtain⟨aok,capk,xsk,hvk1,_⟩:=id hvk;subst hvk1;have hX:=Fd.q78 title p k;have HX:=Lib.hid hX;have hR:childR title p k=(Fd.z3g title p k).getD Fd.Nd.none:=rfl;have HR:=Lib.hid hR;generalize childR title p k=out at HR ⊢;generalize Fd.z3g title p k=opt at HX HR ⊢;have b0:=Blk.new w 53 #[.string (st n),.slice aoa a.length capa,.string (st t),.slice aok k.len capk];have b1:=Blk.new (w.alloc (.cells #[.string (st n),.slice aoa a.length capa,.string (st t),.slice aok k.len capk] 53)) 9 #[.string (st title)];have b2:=Blk.new ((w.alloc (.cells #[.string (st n),.slice aoa a.length capa,.string (st t),.slice aok k.len capk] 53)).alloc (.cells #[.string (st title)] 9)) 121 #[.func (.func g) #[] #[]];have b3:=Blk.new (((w.alloc (.cells #[.string (st n),.slice aoa a.length capa,.string (st t),.slice aok k.len capk] 53)).alloc (.cells #[.string (st title)] 9)).alloc (.cells #[.func (.func g) #[] #[]] 121)) 53 #[.string ⟨#[]⟩,.slice none 0 0,.string ⟨#[]⟩,.slice none 0 0];simp only [World.size_alloc] at b1 b2 b3;have hal:=((((Below.refl _ w).alloc (Nat.le_refl _) (.cells #[.string (st n),.slice aoa a.length capa,.string (st t),.slice aok k.len capk] 53)).alloc (by simp) (.cells #[.string (st title)] 9)).alloc (by simp;omega) (.cells #[.func (.func g) #[] #[]] 121)).alloc (by simp;omega) (.cells #[.string ⟨#[]⟩,.slice none 0 0,.string ⟨#[]⟩,.slice none 0 0] 53);have AL:=Lib.hid hal;have NB:=Lib.hid (Blk.alloc (Blk.alloc (Blk.alloc b0 (.cells #[.string (st title)] 9)) (.cells #[.func (.func g) #[] #[]] 121)) (.cells #[.string ⟨#[]⟩,.slice none 0 0,.string ⟨#[]⟩,.slice none 0 0] 53));have TB:=Lib.hid (Blk.alloc (Blk.alloc b1 (.cells #[.func (.func g) #[] #[]] 121)) (.cells #[.string ⟨#[]⟩,.slice none 0 0,.string ⟨#[]⟩,.slice none 0 0] 53));have DB:=Lib.hid (Blk.alloc b2 (.cells #[.string ⟨#[]⟩,.slice none 0 0,.string ⟨#[]⟩,.slice none 0 0] 53));have CB:=Lib.hid b3;have HDO:=Lib.hid hdo;have HAT:=Lib.hid hat
 have HKW:=Lib.hid hK;have HVK:=Lib.hid hvk;have HV1:=Lib.hid hv1;clear b0 b1 b2 b3 hal hX hR hdo hat hK hvk hv1;unfold V4;go_enter Tryz.func68,Tryz.ntmps68;go_upto_region 1 with fail;generalize (((w.alloc (.cells #[.string (st n),.slice aoa a.length capa,.string (st t),.slice aok k.len capk] 53)).alloc (.cells #[.string (st title)] 9)).alloc (.cells #[.func (.func g) #[] #[]] 121)).alloc (.cells #[.string ⟨#[]⟩,.slice none 0 0,.string ⟨#[]⟩,.slice none 0 0] 53)=w1 at AL NB TB DB CB ⊢;have hNC:w.heap.size ≠ w.heap.size + 1 + 1 + 1:=by omega
 have hCC:w.heap.size≤w.heap.size + 1 + 1 + 1:=by omega
 generalize w.heap.size + 1 + 1 + 1=C at CB hNC hCC ⊢;generalize w.heap.size + 1 + 1=D at DB ⊢;generalize w.heap.size + 1=T at TB ⊢;have hK1:∀ b,K b→b < w1.heap.size:=fun b q=>Nat.lt_of_lt_of_le (HKW.out b q) AL.out.size
 have HI:=Lib.hid (q6k 117 #[.pointer (some ⟨T,0,none⟩),.pointer (some ⟨D,0,none⟩)] _ eg_child k _ K w1 (HVK.out.below HKW.out AL.out) hK1 hl (j3e g eg title p T D k K w1 (Blk.lt TB.out) (Blk.lt DB.out) (Blk.cell TB.out 0) (Blk.cell DB.out 0) hK1 (HDO.out.up AL.out)));have c3:w1.cell? ⟨w.heap.size,3,none⟩=some (.slice aok k.len capk):=Blk.cell NB.out 3;have hNl:=Blk.lt NB.out;have hCl:=Blk.lt CB.out;clear TB DB HDO;go_wp2_with fail;refine HI.out.mono ?_;rintro e w2 ⟨hb,i,rfl,hi⟩;have B2:=Lib.hid (AL.out.trans (hb.mono AL.out.size));have d3:w2.cell? ⟨w.heap.size,3,none⟩=some (.slice aok k.len capk):=(hb.cell (p:=⟨w.heap.size,3,none⟩) hNl).trans c3;have CB2:=Lib.hid ((hb.block C hCl).trans CB.out);have z0:w2.cell? ⟨C,0,none⟩=some (.string ⟨#[]⟩):=Blk.cell CB2.out 0;have z1:w2.cell? ⟨C,1,none⟩=some (.slice none 0 0):=Blk.cell CB2.out 1;have z2:w2.cell? ⟨C,2,none⟩=some (.string ⟨#[]⟩):=Blk.cell CB2.out 2;have z3:w2.cell? ⟨C,3,none⟩=some (.slice none 0 0):=Blk.cell CB2.out 3;have y:∀ i,w2.frozen? ⟨C,i,none⟩=false:=Blk.frozen CB2.out;have HB:Hid (∀ a b c d,Below w.heap.size w (ansW w2 C a b c d)):=fun a b c d=>(((B2.out.setCell (p:=⟨C,0,none⟩) hCC a).setCell (p:=⟨C,1,none⟩) hCC b).setCell (p:=⟨C,2,none⟩) hCC c).setCell (p:=⟨C,3,none⟩) hCC d
 clear hb HI AL NB CB c3 CB2
 rcases hi with ⟨rfl,h2⟩ | ⟨j,n',a',t',kk,r,rfl,hd,h2⟩
 ·have HE:Hid (opt=none):=by show _=_;rw[HX.out,h2]
  have HO:Hid (out=Fd.Nd.none):=by show _=_;rw[HR.out,HE.out];rfl
  clear h2 HX HR;go_wp2_with fail;refine bodyPost_ret (v:=.tuple #[V4 [] (.slice none 0 0) [] (.slice none 0 0),.bool false]) (by simp[results,Tryz.results68,go_sem, *];rfl) rfl ?_;rw[HE.out,HO.out];exact⟨HB.out _ _ _ _,.slice none 0 0,.slice none 0 0,rfl,NdV.none _ _⟩
 ·have HE:Hid (opt=some ⟨n',a',t',kk⟩):=by show _=_;rw[HX.out,h2]
  have HO:Hid (out=⟨n',a',t',kk⟩):=by show _=_;rw[HR.out,HE.out];rfl
  have hjl:j < k.len:=by
   rcases Nat.lt_or_ge j k.len with q | q
   ·exact q
   ·have hr:=Mk.Fo.j8c k j
    rw[hd] at hr;simp only [Mk.Fo.len] at hr;omega
  rcases HV1.out with ⟨hq,hKg⟩ | ⟨ao,hq,h0⟩
  ·injection hq with q1 q2 q3
   subst q1;obtain⟨va',vk',e0,e1,e2,e3,hva',hvk'⟩:=HAT.out j n' a' t' kk r hd;rw[← B2.out.cell (p:=⟨g0,_,none⟩) (HKW.out g0 hKg)] at e0 e1 e2 e3;obtain⟨aoa',capa',hva1',_⟩:=id hva';subst hva1';obtain⟨aok',capk',xsk',hvk1',_⟩:=id hvk';subst hvk1';have FIN:=Lib.hid (And.intro (HB.out (.string (st n')) (.slice aoa' a'.length capa') (.string (st t')) (.slice aok' kk.len capk')) (And.intro (hva'.below HKW.out (HB.out (.string (st n')) (.slice aoa' a'.length capa') (.string (st t')) (.slice aok' kk.len capk'))) (hvk'.below HKW.out (HB.out (.string (st n')) (.slice aoa' a'.length capa') (.string (st t')) (.slice aok' kk.len capk')))));have hji:(j:Int) < k.len:=by omega
   have hj0:¬ (j:Int) < 0:=by omega
   have hj1:(0:Int)≤j:=by omega
   clear h2 HX HR HAT hva' hvk' HB hd HVK HV1;go_wp2_with fail;refine bodyPost_ret (v:=.tuple #[V4 n' (.slice aoa' a'.length capa') t' (.slice aok' kk.len capk'),.bool true]) (by simp[results,Tryz.results68,go_sem, *];rfl) rfl ?_;rw[HE.out,HO.out];exact⟨FIN.out.1,_,_,rfl,FIN.out.2⟩
  ·subst h0
   simp[Mk.Fo.len] at hjl
theorem z3r (title:List UInt8) (p:Fd.Nd→Bool):∀ k:Mk.Fo,Mk.Fo.atB (childR title p k).ats + (childR title p k).text.length + (childR title p k).kids.bulk≤k.bulk
 | .nil=>by show 0 + 0 + 0≤0;omega
 | .node n a t k r=>by
  have ih:=z3r title p r;have e:Mk.Fo.bulk (.node n a t k r)=1 + n.length + t.length + Mk.Fo.atB a + Mk.Fo.bulk k + Mk.Fo.bulk r:=rfl;rw[e];unfold childR at ih ⊢;unfold Fd.z3g
  split
  ·show Mk.Fo.atB a + t.length + k.bulk≤_
   omega
  ·omega
theorem j1q (n title:List UInt8) (a:List Mk.At) (t:List UInt8) (va vk:Value) (k:Mk.Fo) (K:Nat→Prop) (w:World) (hva:∃ ao cap,va=.slice ao a.length cap) (hvk:FoV w K vk k) (hK:∀ b,K b→b < w.heap.size) (hl:k.bulk≤33554432) :
  Calls Tryz.prog 118 #[V4 n va t vk,.string (st title)] w fun e w'=>e=.returned (.string (st (Fd.Y5 k title)))∧Below w.heap.size w w':=by
 obtain⟨aoa,capa,rfl⟩:=hva;obtain⟨aok,capk,xsk,hvk1,_⟩:=id hvk;subst hvk1;have HW:Hid (Fd.Y5 k title=Fd.q8v ((childR title (fun _=>true) k).text++Fd.z0z (childR title (fun _=>true) k).kids)):=rfl;generalize Fd.Y5 k title=out at HW ⊢;have hal:=(Below.refl w.heap.size w).alloc (Nat.le_refl _) (.cells #[.string (st n),.slice aoa a.length capa,.string (st t),.slice aok k.len capk] 53);have hK1:∀ b,K b→b < (w.alloc (.cells #[.string (st n),.slice aoa a.length capa,.string (st t),.slice aok k.len capk] 53)).heap.size:=fun b q=>Nat.lt_of_lt_of_le (hK b q) hal.size
 have HC:=Lib.hid (q1j 69 q5o n title a t (.slice aoa a.length capa) (.slice aok k.len capk) k (fun _=>true) K _ ⟨_,_,rfl⟩ (hvk.below hK hal) hK1 hl (z9r k K _));have AL:=Lib.hid hal;have NB:=Lib.hid (Blk.new w 53 #[.string (st n),.slice aoa a.length capa,.string (st t),.slice aok k.len capk]);have hcb:=z3r title (fun _=>true) k;generalize childR title (fun _=>true) k=x at HW HC hcb;have HK1:=Lib.hid hK1;clear hal hvk hK1;unfold V4 at HC ⊢;go_enter Tryz.func118,Tryz.ntmps118;go_upto_region 1 with fail;generalize w.alloc (.cells #[.string (st n),.slice aoa a.length capa,.string (st t),.slice aok k.len capk] 53)=w1 at AL NB HC HK1 ⊢;have n0:w1.cell? ⟨w.heap.size,0,none⟩=some (.string (st n)):=Blk.cell NB.out 0;have n1:w1.cell? ⟨w.heap.size,1,none⟩=some (.slice aoa a.length capa):=Blk.cell NB.out 1;have n2:w1.cell? ⟨w.heap.size,2,none⟩=some (.string (st t)):=Blk.cell NB.out 2;have n3:w1.cell? ⟨w.heap.size,3,none⟩=some (.slice aok k.len capk):=Blk.cell NB.out 3;go_wp2_with fail;refine HC.out.mono ?_;rintro e w2 ⟨hb,va',vk',rfl,hnd⟩;have B2:=Lib.hid (AL.out.trans (hb.mono AL.out.size));obtain⟨aoa',capa',hva1',_⟩:=id hnd.1;subst hva1';obtain⟨aok',capk',xsk',hvk1',_⟩:=id hnd.2;subst hvk1';have hK2:∀ b,K b→b < w2.heap.size:=fun b q=>Nat.lt_of_lt_of_le (HK1.out b q) hb.size
 have hal2:=(Below.refl w2.heap.size w2).alloc (Nat.le_refl _) (.cells #[.string (st x.name),.slice aoa' x.ats.length capa',.string (st x.text),.slice aok' x.kids.len capk'] 53);have HT:=Lib.hid (fd_text (x.kids.bulk + 1) x.name x.ats x.text x.kids (Nat.lt_succ_self _) (by omega) _ _ K _ (hnd.1.below hK2 hal2) (hnd.2.below hK2 hal2) (fun b q=>Nat.lt_of_lt_of_le (hK2 b q) hal2.size));have B3:=Lib.hid (B2.out.trans (hal2.mono B2.out.size));have MB:=Lib.hid (Blk.new w2 53 #[.string (st x.name),.slice aoa' x.ats.length capa',.string (st x.text),.slice aok' x.kids.len capk']);have htb:=Fd.z2m x.kids;unfold V4 at HT;clear hb hnd hal2 hK2 HC n0 n1 n2 n3 NB AL B2 HK1;go_upto_region 2 with fail;generalize w2.alloc (.cells #[.string (st x.name),.slice aoa' x.ats.length capa',.string (st x.text),.slice aok' x.kids.len capk'] 53)=w3 at B3 MB HT ⊢;have m0:w3.cell? ⟨w2.heap.size,0,none⟩=some (.string (st x.name)):=Blk.cell MB.out 0;have m1:w3.cell? ⟨w2.heap.size,1,none⟩=some (.slice aoa' x.ats.length capa'):=Blk.cell MB.out 1;have m2:w3.cell? ⟨w2.heap.size,2,none⟩=some (.string (st x.text)):=Blk.cell MB.out 2;have m3:w3.cell? ⟨w2.heap.size,3,none⟩=some (.slice aok' x.kids.len capk'):=Blk.cell MB.out 3;clear MB;go_wp2_with fail;refine HT.out.mono ?_;rintro e w4 ⟨rfl,hb4⟩;have B4:=Lib.hid (B3.out.trans (hb4.mono B3.out.size));have HTR:=Lib.hid (fd_trim (x.text++Fd.z0z x.kids) w4 (by rw[List.length_append];omega));clear hb4 HT m0 m1 m2 m3 B3;go_wp2_with fail;refine HTR.out.mono ?_;rintro e w5 ⟨rfl,hw5⟩;subst w5;go_wp2_with fail;go_ret;exact⟨by (rw[HW.out]) <;> rfl,B4.out⟩
def enV (x:Fd.En):List Value:=[.string (st x.id),.string (st x.ti),.string (st x.li),.int .i64 x.at_,.string (st x.ht)]
def Y7 (l:List Fd.En):List Value:=l.flatMap enV
def z14 (w:World) (K:Nat→Prop) (v:Value) (l:List Fd.En):Prop:=∃ ao cap,v=.slice ao l.length cap∧z2e w K ao (Y7 l)∧l.length≤cap∧l.length≤maxLen
theorem z14.frame {w w':World} {K K':Nat→Prop} {v:Value} {l:List Fd.En} (h:z14 w K v l) (hk:∀ b,K b→K' b∧w'.heap[b]? = w.heap[b]?):z14 w' K' v l:=by
 obtain⟨ao,cap,h1,h2,h3⟩:=h;exact⟨ao,cap,h1,h2.frame hk,h3⟩
theorem z14.below {w w':World} {K:Nat→Prop} {v:Value} {l:List Fd.En} {B:Nat} (h:z14 w K v l) (hK:∀ b,K b→b < B) (hb:Below B w w'):z14 w' K v l:=h.frame fun b q=>⟨q,hb.block b (hK b q)⟩
theorem z14.nil (w:World) (K:Nat→Prop):z14 w K (.slice none 0 0) []:=⟨none,0,rfl,.inl rfl,Nat.le_refl _,Nat.zero_le _⟩
theorem q0p (l:List Fd.En):(Y7 l).length=l.length * 5:=by
 induction l with
 | nil=>rfl
 | cons a t ih=>rw[show Y7 (a :: t)=enV a++Y7 t from rfl,List.length_append,ih,List.length_cons];simp[enV];omega
theorem q7j (l:List Fd.En) (k:Nat) (h:k < l.length):(Y7 l)[k * 5]? = some (.string (st l[k].id))∧(Y7 l)[k * 5 + 1]? = some (.string (st l[k].ti))∧(Y7 l)[k * 5 + 2]? = some (.string (st l[k].li))∧(Y7 l)[k * 5 + 3]? = some (.int .i64 l[k].at_)∧(Y7 l)[k * 5 + 4]? = some (.string (st l[k].ht)):=by
 induction l generalizing k with
 | nil=>simp at h
 | cons a t ih =>
  cases k with
  | zero=>exact⟨rfl,rfl,rfl,rfl,rfl⟩
  | succ k =>
   have h':k < t.length:=by simpa using h
   have e:Y7 (a :: t)=enV a++Y7 t:=rfl;have e5:(enV a).length=5:=rfl;rw[e,show (k + 1) * 5=k * 5 + 5 by omega];obtain⟨h1,h2,h3,h4,h5⟩:=ih k h';refine⟨?_,?_,?_,?_,?_⟩
   ·rw[List.getElem?_append_right (by omega),e5];simpa using h1
   ·rw[List.getElem?_append_right (by omega),e5,show k * 5 + 5 + 1 - 5=k * 5 + 1 by omega];simpa using h2
   ·rw[List.getElem?_append_right (by omega),e5,show k * 5 + 5 + 2 - 5=k * 5 + 2 by omega];simpa using h3
   ·rw[List.getElem?_append_right (by omega),e5,show k * 5 + 5 + 3 - 5=k * 5 + 3 by omega];simpa using h4
   ·rw[List.getElem?_append_right (by omega),e5,show k * 5 + 5 + 4 - 5=k * 5 + 4 by omega];simpa using h5
theorem z14.at_ {w:World} {K:Nat→Prop} {v:Value} {l:List Fd.En} (h:z14 w K v l):∃ g o cap,(l ≠ []→K g)∧(v=.slice (some ⟨g,o,none⟩) l.length cap∨∃ ao,v=.slice ao 0 cap∧l=[])∧∀ k (hk:k < l.length),
  w.cell? ⟨g,o + k * 5,none⟩=some (.string (st l[k].id))∧w.cell? ⟨g,o + k * 5 + 1,none⟩=some (.string (st l[k].ti))∧w.cell? ⟨g,o + k * 5 + 2,none⟩=some (.string (st l[k].li))∧w.cell? ⟨g,o + k * 5 + 3,none⟩=some (.int .i64 l[k].at_)∧w.cell? ⟨g,o + k * 5 + 4,none⟩=some (.string (st l[k].ht)):=by
 obtain⟨ao,cap,h1,h2,_⟩:=h
 rcases h2 with h2 | ⟨g,o,h3,h4,h5⟩
 ·have:l=[]:=List.eq_nil_of_length_eq_zero (by have:=q0p l;rw[h2] at this;simp at this;omega)
  subst this;exact⟨0,0,cap,fun h=>absurd rfl h,.inr ⟨ao,h1,rfl⟩,fun k hk=>absurd hk (Nat.not_lt_zero _)⟩
 ·refine⟨g,o,cap,fun _=>h4,.inl (by rw[h1,h3]),fun k hk=>?_⟩
  obtain⟨e1,e2,e3,e4,e5⟩:=q7j l k hk;exact⟨h5 _ _ e1,by rw[Nat.add_assoc];exact h5 _ _ e2,by rw[Nat.add_assoc];exact h5 _ _ e3,by rw[Nat.add_assoc];exact h5 _ _ e4,by rw[Nat.add_assoc];exact h5 _ _ e5⟩
def enAg (x:Fd.En):Value:=.agg #[.string (st x.id),.string (st x.ti),.string (st x.li),.int .i64 x.at_,.string (st x.ht)]
def AsksE (g:FuncId) (lb:Array Value) (q:Fd.En→Bool) (l:List Fd.En) (w:World):Prop :=
 ∀ w1,Below w.heap.size w w1→∀ x,x ∈ l→Calls Tryz.prog g (#[enAg x]++lb) w1 fun e w'=>e=.returned (.bool (q x))∧Below w1.heap.size w1 w'
theorem q6j (g:FuncId) (lb:Array Value) (q:Fd.En→Bool) (eg:∀ args w,(callFunc g args).run Tryz.prog w=.ok (.enter g args) w) (l:List Fd.En) (v:Value) (K:Nat→Prop) (w:World) (hv:z14 w K v l) (hK:∀ b,K b→b < w.heap.size) (hl:l.length≤33554432) (hq:AsksE g lb q l w) :
  Calls Tryz.prog 146 #[v,.func (.func g) #[] lb] w fun e w'=>Below w.heap.size w w'∧∃ i:Int,e=.returned (.int .i64 i)∧((i = -1∧∀ x ∈ l,q x=false)∨∃ (j:Nat) (hj:j < l.length),i=(j:Int)∧q l[j]=true∧∀ x ∈ l.take j,q x=false):=by
 obtain⟨b,o,cap,hKb,hv1,hcl⟩:=hv.at_
 have HQ:=Lib.hid hq;have HC:=Lib.hid hcl;clear hq hcl
 rcases hv1 with hv1 | ⟨ao,hv1,hl0⟩
 ·subst hv1
  go_enter Tryz.func146,Tryz.ntmps146;go_wp2_with fail
  go_loopw [8] (fun i wr=>∃ k:Nat,k≤l.length∧i=.int .i64 k∧Hid (∀ x ∈ l.take k,q x=false)∧Hid (Below w.heap.size w wr)) (fun i _=>l.length - (intOf i).toNat)
  case atStart=>exact⟨0,Nat.zero_le _,rfl,fun x h=>absurd h (by simp),Below.refl _ _⟩
  case round =>
   obtain⟨k,hk,rfl,HA,BL⟩:=hrel
   by_cases hlt:k < l.length
   ·have hb:b < w.heap.size:=hK b (hKb (by intro e;subst e;simp at hlt))
    obtain⟨c0,c1,c2,c3,c4⟩:=HC.out k hlt;rw[← BL.out.cell (p:=⟨b,_,none⟩) hb] at c0 c1 c2 c3 c4;have hcall:=HQ.out wr BL.out l[k] (List.getElem_mem _);obtain⟨bb,hbb⟩:∃ bb,q l[k]=bb:=⟨_,rfl⟩;rw[hbb] at hcall;have HBB:=Lib.hid hbb;clear hbb;unfold enAg at hcall;have HCALL:=Lib.hid hcall;clear hcall
    cases bb with
    | true =>
     go_wp2_with fail;refine HCALL.out.mono ?_;rintro e w1 ⟨rfl,hb1⟩;have BL1:=Lib.hid (BL.out.trans (hb1.mono BL.out.size));clear hb1;go_wp2_with fail;go_ret;exact⟨BL1.out,k,rfl,.inr ⟨k,hlt,rfl,HBB.out,HA.out⟩⟩
    | false =>
     go_wp2_with fail;refine HCALL.out.mono ?_;rintro e w1 ⟨rfl,hb1⟩;have BL1:=Lib.hid (BL.out.trans (hb1.mono BL.out.size));have HA2:Hid (∀ x ∈ l.take (k + 1),q x=false):=by
      intro x hx;rw[List.take_succ_eq_append_getElem hlt,List.mem_append,List.mem_singleton] at hx
      rcases hx with hx | rfl
      ·exact HA.out x hx
      ·exact HBB.out
     clear hb1;go_wp2_with fail;go_roundw
     case rel=>exact⟨k + 1,by omega,by go_num,HA2,BL1⟩
     case measure=>simp[intOf];omega
   ·have HN:Hid (∀ x ∈ l,q x=false):=by
     have:=HA.out;rw[List.take_of_length_le (by omega)] at this;exact this
    clear HA;go_wp2_with fail;go_ret;exact⟨BL.out,-1,rfl,.inl ⟨rfl,HN.out⟩⟩
 ·subst hl0
  subst hv1;clear HC hK;go_enter Tryz.func146,Tryz.ntmps146;go_wp2_with fail
  go_loopw [8] (fun i wr=>i=.int .i64 0∧wr=w) (fun _ _=>0)
  case atStart=>exact⟨rfl,rfl⟩
  case round =>
   obtain⟨rfl,rfl⟩:=hrel;go_wp2_with fail;go_ret;exact⟨Below.refl _ _,-1,rfl,.inl ⟨rfl,fun _ h=>nomatch h⟩⟩
theorem q18 (g:FuncId) (lb:Array Value) (q:Fd.En→Bool) (eg:∀ args w,(callFunc g args).run Tryz.prog w=.ok (.enter g args) w) (l:List Fd.En) (v:Value) (K:Nat→Prop) (w:World) (hv:z14 w K v l) (hK:∀ b,K b→b < w.heap.size) (hl:l.length≤33554432) (hq:AsksE g lb q l w) :
  Calls Tryz.prog 176 #[v,.func (.func g) #[] lb] w fun e w'=>e=.returned (.bool (l.any q))∧Below w.heap.size w w':=by
 have HI:=Lib.hid (q6j g lb q eg l v K w hv hK hl hq);clear hq hK hv;go_enter Tryz.func176,Tryz.ntmps176;go_wp2_with fail;refine HI.out.mono ?_;rintro e w1 ⟨hb,i,rfl,hi⟩;have HB:=Lib.hid hb;have H2:Hid (decide (0≤i)=l.any q):=by
  show _=_
  rcases hi with ⟨rfl,h⟩ | ⟨j,hj,rfl,h,_⟩
  ·rw[decide_eq_false (by decide)]
   symm
   rw[Bool.eq_false_iff];intro hq;rw[List.any_eq_true] at hq;obtain⟨x,hx,hq⟩:=hq;rw[h x hx] at hq;cases hq
  ·rw[decide_eq_true (by omega)]
   symm
   rw[List.any_eq_true];exact⟨_,List.getElem_mem hj,h⟩
 clear hb hi;go_wp2_with fail;go_ret;exact⟨Z7 H2.out,HB.out⟩
end Go.Proofs.YtjonkbdldebkiaaGreatDoor
