/- Contracts of xml.Check and xml.Print at a right tree. Condition: at most 1000000 nodes, attributes and letters. -/
import Derived.Test.YtjonkbdldebkiaaGreatDoorVFdBegun
import Derived.Test.YtjonkbdldebkiaaGreatDoorVMkClean5
import Derived.Test.YtjonkbdldebkiaaGreatDoorVMkRep3
import Derived.Deep.RegionHeld3
import Derived.Test.YtjonkbdldebkiaaGreatDoorVWsA
import Derived.Test.YtjonkbdldebkiaaGreatDoorVWeA
import Derived.Test.YtjonkbdldebkiaaGreatDoorVMkHtml
import Derived.Deep.QuietTactic
import Derived.Test.YtjonkbdldebkiaaGreatDoorVMkClean4
set_option linter.unusedVariables false
set_option linter.unusedSimpArgs false
set_option maxHeartbeats 8000000
set_option maxRecDepth 100000
namespace Go.Proofs.YtjonkbdldebkiaaGreatDoor
open Go.Proofs.Tryz Go.RowKit
theorem q9r (n:List UInt8) (a:List Mk.At) (t:List UInt8) (k:Mk.Fo) (deep:Int) (hn:n ≠ []) (hs1:(Mk.Q9 8 (.node n a t k .nil)).1≤3000) (hs2:(Mk.Q9 8 (.node n a t k .nil)).2≤8) (hl:n.length + t.length + Mk.Fo.atB a + k.bulk≤1000000) (hok:Fd.q1k n a t k deep) (va vk:Value) (K:Nat→Prop) (w:World) (hva:AtsV w K va a) (hvk:FoV w K vk k) (hK:∀ b,K b→b < w.heap.size) :
  Calls prog 58 #[z05 n va t vk] w fun e w'=>e=.returned (.int .i64 0)∧Below w.heap.size w w':=by
 have hst:∀ l:List UInt8,(st l).toList=l:=fun l=>Lib.toList_data _
 obtain⟨aoa,capa,hva1,_⟩:=id hva;subst hva1;obtain⟨aok,capk,xsk,hvk1,_⟩:=id hvk;subst hvk1;have hal:=(Below.refl w.heap.size w).alloc (Lr) (.cells #[.string (st n),.slice aoa a.length capa,.string (st t),.slice aok k.len capk] 53);have AL:=Ld hal;have NB:=Ld (Blk.new w 53 #[.string (st n),.slice aoa a.length capa,.string (st t),.slice aok k.len capk]);have hbk:Mk.Fo.bulk (.node n a t k .nil)=1 + n.length + t.length + Mk.Fo.atB a + k.bulk + 0:=rfl;have HSZ:Hid (∀ W g,Below w.heap.size w W→Blk W g 53 #[.string (st n),.slice aoa a.length capa,.string (st t),.slice aok k.len capk]→Calls prog 101 #[.slice (some ⟨g,0,none⟩) 1 1,.int .i64 8] W fun e w'=>e=.returned (.tuple #[.int .i64 (Mk.Q9 8 (.node n a t k .nil)).1,.int .i64 (Mk.Q9 8 (.node n a t k .nil)).2])∧Below W.heap.size W w'):=by
  intro W g hW hb;refine tr_Size _ (.node n a t k .nil) 8 _ (fun b=>K b∨b=g) W (Nat.lt_succ_self _) (by omega) (Lr) (FoV.one hb (.inr rfl) ((hva.below hK hW).frame fun b q=>⟨.inl q,rfl⟩) ((hvk.below hK hW).frame fun b q=>⟨.inl q,rfl⟩) 1) ?_;rintro b (q | q)
  ·exact Nat.lt_of_lt_of_le (hK b q) hW.size
  ·rw[q];exact hb.lt
 have HND:Hid (∀ W,Below w.heap.size w W→Calls prog 102 #[.agg #[.string (st n),.slice aoa a.length capa,.string (st t),.slice aok k.len capk]] W fun e w'=>e=.returned (.int .i64 0)∧Below W.heap.size W w'):=fun W hW=>xm_node _ n a t k deep (Nat.lt_succ_self _) hl hok _ _ K W (hva.below hK hW) (hvk.below hK hW) (fun b q=>Nat.lt_of_lt_of_le (hK b q) hW.size)
 generalize (Mk.Q9 8 (.node n a t k .nil)).1=c1 at HSZ hs1;generalize (Mk.Q9 8 (.node n a t k .nil)).2=c2 at HSZ hs2;have hc1:¬ (3000:Int) < c1:=by omega
 have hc2:¬ (8:Int) < c2:=by omega
 have en:n.isEmpty=false:=by
  cases n with
  | nil=>exact absurd rfl hn
  | cons _ _=>rfl
 clear hok hbk hl hva hvk hn hs1 hs2 hal;unfold z05;go_enter func58,ntmps58;go_upto_region 1 with fail;obtain⟨X,hX⟩:∃ X,X=w.heap.size:=⟨_,rfl⟩;rw[← hX] at NB;rw[← hX];generalize w.alloc (.cells #[.string (st n),.slice aoa a.length capa,.string (st t),.slice aok k.len capk] 53)=w1 at AL NB ⊢;clear hX;have p0:w1.cell? ⟨X,0,none⟩=some (.string (st n)):=Blk.cell NB.out 0;have p1:w1.cell? ⟨X,1,none⟩=some (.slice aoa a.length capa):=Blk.cell NB.out 1;have p2:w1.cell? ⟨X,2,none⟩=some (.string (st t)):=Blk.cell NB.out 2;have p3:w1.cell? ⟨X,3,none⟩=some (.slice aok k.len capk):=Blk.cell NB.out 3;have hal2:=(Below.refl w1.heap.size w1).alloc (Lr) (.cells #[.string (st n),.slice aoa a.length capa,.string (st t),.slice aok k.len capk] 53);have AL2:=Ld (AL.out.trans (hal2.mono AL.out.size));have NB2:=Ld (Blk.alloc NB.out (.cells #[.string (st n),.slice aoa a.length capa,.string (st t),.slice aok k.len capk] 53));have QB:=Ld (Blk.new w1 53 #[.string (st n),.slice aoa a.length capa,.string (st t),.slice aok k.len capk]);clear hal2;go_wp2_with fail;refine(HSZ.out _ _ AL2.out QB.out).mono ?_;rintro e w2 ⟨rfl,hb2⟩;have B2:=Ld (AL2.out.trans (hb2.mono AL2.out.size));have NB3:=Ld (Blk.below NB2.out hb2 NB2.out.lt);clear hb2 p0 p1 p2 p3 NB NB2 QB HSZ AL AL2;have p0:w2.cell? ⟨X,0,none⟩=some (.string (st n)):=Blk.cell NB3.out 0;have p1:w2.cell? ⟨X,1,none⟩=some (.slice aoa a.length capa):=Blk.cell NB3.out 1;have p2:w2.cell? ⟨X,2,none⟩=some (.string (st t)):=Blk.cell NB3.out 2;have p3:w2.cell? ⟨X,3,none⟩=some (.slice aok k.len capk):=Blk.cell NB3.out 3;go_wp2_with fail;refine(HND.out _ B2.out).mono ?_;rintro e w3 ⟨rfl,hb3⟩;have B3:=Ld (B2.out.trans (hb3.mono B2.out.size));clear hb3;go_wp2_with fail;go_ret;exact⟨rfl,B3.out⟩
theorem q9u (n:List UInt8) (a:List Mk.At) (t:List UInt8) (k:Mk.Fo) (deep:Int) (hn:n ≠ []) (hs1:(Mk.Q9 8 (.node n a t k .nil)).1≤3000) (hs2:(Mk.Q9 8 (.node n a t k .nil)).2≤8) (hl:n.length + t.length + Mk.Fo.atB a + k.bulk≤1000000) (hok:Fd.q1k n a t k deep) (va vk:Value) (K:Nat→Prop) (w:World) (hva:AtsV w K va a) (hvk:FoV w K vk k) (hK:∀ b,K b→b < w.heap.size) :
  Calls prog 27 #[z05 n va t vk] w fun e w'=>e=.returned (.tuple #[.string (st (Fd.xmlB (.node n a t k .nil))),.int .i64 0])∧Below w.heap.size w w':=by
 have hxe:Fd.xmlB (.node n a t k .nil)=Fd.oneB n a t k:=by rw[Fd.z6f];exact List.append_nil _
 rw[hxe];clear hxe;obtain⟨aoa,capa,hva1,_⟩:=id hva;subst hva1;obtain⟨aok,capk,xsk,hvk1,_⟩:=id hvk;subst hvk1;have hal:=(Below.refl w.heap.size w).alloc (Lr) (.cells #[.string (st n),.slice aoa a.length capa,.string (st t),.slice aok k.len capk] 53);have AL:=Ld hal;have NB:=Ld (Blk.new w 53 #[.string (st n),.slice aoa a.length capa,.string (st t),.slice aok k.len capk]);have HCK:Hid (∀ W,Below w.heap.size w W→Calls prog 58 #[.agg #[.string (st n),.slice aoa a.length capa,.string (st t),.slice aok k.len capk]] W fun e w'=>e=.returned (.int .i64 0)∧Below W.heap.size W w'):=fun W hW=>q9r n a t k deep hn hs1 hs2 hl hok _ _ K W (hva.below hK hW) (hvk.below hK hW) (fun b q=>Nat.lt_of_lt_of_le (hK b q) hW.size)
 have HBY:Hid (∀ W,Below w.heap.size w W→Calls prog 67 #[.agg #[.string (st n),.slice aoa a.length capa,.string (st t),.slice aok k.len capk]] W fun e w'=>e=.returned (.string (st (Fd.oneB n a t k)))∧Below W.heap.size W w'):=fun W hW=>xm_bytes _ n a t k (Nat.lt_succ_self _) (by omega) _ _ K W (hva.below hK hW) (hvk.below hK hW) (fun b q=>Nat.lt_of_lt_of_le (hK b q) hW.size)
 generalize Fd.oneB n a t k=out at HBY ⊢;clear hok hl hva hvk hn hs1 hs2 hal;unfold z05;go_enter func27,ntmps27;go_upto_region 1 with fail;obtain⟨X,hX⟩:∃ X,X=w.heap.size:=⟨_,rfl⟩;rw[← hX] at NB;rw[← hX];generalize w.alloc (.cells #[.string (st n),.slice aoa a.length capa,.string (st t),.slice aok k.len capk] 53)=w1 at AL NB ⊢;clear hX;have p0:w1.cell? ⟨X,0,none⟩=some (.string (st n)):=Blk.cell NB.out 0;have p1:w1.cell? ⟨X,1,none⟩=some (.slice aoa a.length capa):=Blk.cell NB.out 1;have p2:w1.cell? ⟨X,2,none⟩=some (.string (st t)):=Blk.cell NB.out 2;have p3:w1.cell? ⟨X,3,none⟩=some (.slice aok k.len capk):=Blk.cell NB.out 3;go_wp2_with fail;refine(HCK.out _ AL.out).mono ?_;rintro e w2 ⟨rfl,hb2⟩;have B2:=Ld (AL.out.trans (hb2.mono AL.out.size));have NB3:=Ld (Blk.below NB.out hb2 NB.out.lt);clear hb2 p0 p1 p2 p3 NB HCK AL;have p0:w2.cell? ⟨X,0,none⟩=some (.string (st n)):=Blk.cell NB3.out 0;have p1:w2.cell? ⟨X,1,none⟩=some (.slice aoa a.length capa):=Blk.cell NB3.out 1;have p2:w2.cell? ⟨X,2,none⟩=some (.string (st t)):=Blk.cell NB3.out 2;have p3:w2.cell? ⟨X,3,none⟩=some (.slice aok k.len capk):=Blk.cell NB3.out 3;go_wp2_with fail;refine(HBY.out _ B2.out).mono ?_;rintro e w3 ⟨rfl,hb3⟩;have B3:=Ld (B2.out.trans (hb3.mono B2.out.size));clear hb3;go_wp2_with fail;go_ret2;exact⟨rfl,B3.out⟩
end Go.Proofs.YtjonkbdldebkiaaGreatDoor
namespace Mk
def page:Fo:=.node [112] [] [] (.node [] [] [97] .nil (.node [98,114] [] [] .nil .nil)) (.node [117,108] [] [] (.node [108,105] [] [] (.node [] [] [98] .nil .nil) (.node [108,105] [] [] (.node [] [] [99] .nil .nil) .nil)) .nil)
end Mk
namespace Go.Proofs.YtjonkbdldebkiaaGreatDoor
open Go.RowKit
theorem FoV.of_blk {w:World} {g cap:Nat} {K:Nat→Prop} {f:Mk.Fo} {cs:List Value} (hb:Blk w g 53 cs.toArray) (hK:K g) (hc:z07 w K f cs) (hl:f.len≤maxLen):FoV w K (.slice (some ⟨g,0,none⟩) f.len cap) f :=
 ⟨_,cap,cs,rfl,.inr ⟨g,0,rfl,hK,fun i v q=>by rw[Nat.zero_add];exact(Blk.cell hb i).trans (by simpa using q)⟩,hc,hl⟩
def j6j (n t:List UInt8) (vk:Value):List Value:=[.string (st n),.slice none 0 0,.string (st t),vk]
theorem z07.one {w:World} {K:Nat→Prop} {n t:List UInt8} {k r:Mk.Fo} {ao:Option Addr} {cap:Nat} {ys:List Value} (hk:FoV w K (.slice ao k.len cap) k) (hr:z07 w K r ys):z07 w K (.node n [] t k r) (j6j n t (.slice ao k.len cap)++ys):=by
 obtain⟨ao',cap',xs,h1,h2,h3,h4⟩:=hk;injection h1 with e1 e2 e3;subst e1;exact⟨.slice none 0 0,ao,cap,xs,ys,rfl,AtsV.nil _ _,h2,h4,h3,hr⟩
theorem FoV.nil0 (w:World) (K:Nat→Prop):FoV w K (.slice none (Mk.Fo.nil).len 0) .nil:=⟨none,0,[],rfl,.inl rfl,rfl,Nat.zero_le _⟩
theorem z07.nil0 (w:World) (K:Nat→Prop):z07 w K .nil []:=rfl
end Go.Proofs.YtjonkbdldebkiaaGreatDoor
namespace Mk
def docK:Fo:=.node [] [] [120] .nil (.node [110,58,101] [] [] .nil .nil)
def docA:List At:=[⟨[97],[60,38]⟩]
end Mk
namespace Go.Proofs.YtjonkbdldebkiaaGreatDoor
open Go.Proofs.Tryz Go.RowKit
theorem q8h (w:World) :
  Calls prog 56 #[] w fun e w'=>∃ va vk,e=.returned (z05 [114] va [] vk)∧AtsV w' (fun b=>w.heap.size≤b∧b < w'.heap.size) va Mk.docA∧FoV w' (fun b=>w.heap.size≤b∧b < w'.heap.size) vk Mk.docK∧Below w.heap.size w w':=by
 go_enter func56,ntmps56;go_wp2_with fail;have b0:=Blk.new w 53 #[.string (st [114]),.slice (some ⟨w.heap.size + 1,0,none⟩) 1 1,.string (st []),.slice (some ⟨w.heap.size + 1 + 1,0,none⟩) 2 2];have b1:=Blk.new (w.alloc (.cells #[.string (st [114]),.slice (some ⟨w.heap.size + 1,0,none⟩) 1 1,.string (st []),.slice (some ⟨w.heap.size + 1 + 1,0,none⟩) 2 2] 53)) 56 #[.string (st [97]),.string (st [60,38])];have b2:=Blk.new ((w.alloc (.cells #[.string (st [114]),.slice (some ⟨w.heap.size + 1,0,none⟩) 1 1,.string (st []),.slice (some ⟨w.heap.size + 1 + 1,0,none⟩) 2 2] 53)).alloc (.cells #[.string (st [97]),.string (st [60,38])] 56)) 53 (j6j [] [120] (.slice none 0 0)++(j6j [110,58,101] [] (.slice none 0 0)++[])).toArray;have BB:=(((Below.refl w.heap.size w).alloc (Lr) (.cells #[.string (st [114]),.slice (some ⟨w.heap.size + 1,0,none⟩) 1 1,.string (st []),.slice (some ⟨w.heap.size + 1 + 1,0,none⟩) 2 2] 53)).alloc (by simp) (.cells #[.string (st [97]),.string (st [60,38])] 56)).alloc (by simp;omega) (.cells (j6j [] [120] (.slice none 0 0)++(j6j [110,58,101] [] (.slice none 0 0)++[])).toArray 53);have b0':=Blk.alloc (Blk.alloc b0 (.cells #[.string (st [97]),.string (st [60,38])] 56)) (.cells (j6j [] [120] (.slice none 0 0)++(j6j [110,58,101] [] (.slice none 0 0)++[])).toArray 53);have b1':=Blk.alloc b1 (.cells (j6j [] [120] (.slice none 0 0)++(j6j [110,58,101] [] (.slice none 0 0)++[])).toArray 53);simp only [World.size_alloc] at b1' b2;show bodyPost _ _ _ _ _ (((w.alloc (.cells #[.string (st [114]),.slice (some ⟨w.heap.size + 1,0,none⟩) 1 1,.string (st []),.slice (some ⟨w.heap.size + 1 + 1,0,none⟩) 2 2] 53)).alloc (.cells #[.string (st [97]),.string (st [60,38])] 56)).alloc (.cells (j6j [] [120] (.slice none 0 0)++(j6j [110,58,101] [] (.slice none 0 0)++[])).toArray 53));have hsz:(((w.alloc (.cells #[.string (st [114]),.slice (some ⟨w.heap.size + 1,0,none⟩) 1 1,.string (st []),.slice (some ⟨w.heap.size + 1 + 1,0,none⟩) 2 2] 53)).alloc (.cells #[.string (st [97]),.string (st [60,38])] 56)).alloc (.cells (j6j [] [120] (.slice none 0 0)++(j6j [110,58,101] [] (.slice none 0 0)++[])).toArray 53)).heap.size=w.heap.size + 3:=by simp only [World.size_alloc]
 generalize (((w.alloc (.cells #[.string (st [114]),.slice (some ⟨w.heap.size + 1,0,none⟩) 1 1,.string (st []),.slice (some ⟨w.heap.size + 1 + 1,0,none⟩) 2 2] 53)).alloc (.cells #[.string (st [97]),.string (st [60,38])] 56)).alloc (.cells (j6j [] [120] (.slice none 0 0)++(j6j [110,58,101] [] (.slice none 0 0)++[])).toArray 53))=W at b0' b1' b2 BB hsz ⊢;clear b0 b1;have p0:W.cell? ⟨w.heap.size,0,none⟩=some (.string (st [114])):=Blk.cell b0' 0;have p1:W.cell? ⟨w.heap.size,1,none⟩=some (.slice (some ⟨w.heap.size + 1,0,none⟩) 1 1):=Blk.cell b0' 1;have p2:W.cell? ⟨w.heap.size,2,none⟩=some (.string (st [])):=Blk.cell b0' 2;have p3:W.cell? ⟨w.heap.size,3,none⟩=some (.slice (some ⟨w.heap.size + 1 + 1,0,none⟩) 2 2):=Blk.cell b0' 3;have FIN:=Ld (And.intro b1' (And.intro b2 (And.intro BB hsz)));clear b0' b1' b2 BB hsz;refine bodyPost_ret (v:=z05 [114] (.slice (some ⟨w.heap.size + 1,0,none⟩) 1 1) [] (.slice (some ⟨w.heap.size + 1 + 1,0,none⟩) 2 2)) (by simp[results,results56,go_sem, *];rfl) rfl ?_;obtain⟨b1,b2,BB,hsz⟩:=FIN.out;refine⟨_,_,rfl,?_,?_,BB⟩
 ·refine⟨_,1,rfl,.inr ⟨w.heap.size + 1,0,rfl,⟨by omega,by omega⟩,fun i v hi=>?_⟩,Lr,by decide⟩
  rw[Nat.zero_add,Blk.cell b1 i,← hi];simp[Y8,Mk.docA]
 ·exact FoV.of_blk (f:=Mk.docK) b2 ⟨by omega,by omega⟩ (z07.one (k:=.nil) (FoV.nil0 _ _) (z07.one (k:=.nil) (FoV.nil0 _ _) (z07.nil0 _ _))) (by decide)
end Go.Proofs.YtjonkbdldebkiaaGreatDoor
namespace Fd
open Mk
theorem j1z (s:Bs) (h:s=[]∨∃ (a b:UInt8),s.head? = some a∧s.getLast? = some b∧z2s a=false∧z2s b=false):trimmed s:=by
 unfold trimmed q7a
 rcases h with rfl | ⟨a,b,h1,h2,h3,h4⟩
 ·rfl
 ·cases s with
  | nil=>cases h1
  | cons c t =>
   injection h1 with h1;subst h1;rw[z3d c t h3];obtain⟨u,hu⟩:∃ u,c :: t=u++[b]:=by
    have hne:c :: t ≠ []:=by simp
    rw[List.getLast?_eq_some_getLast hne] at h2;injection h2 with h2;exact⟨_,by rw[← h2];exact(List.dropLast_concat_getLast hne).symm⟩
   rw[hu,List.reverse_append];show (List.dropWhile z2s (b :: u.reverse)).reverse=_;rw[List.dropWhile_cons_of_neg (by simp[h4])];simp
theorem made_ok (x:En):q1k z3e [] [] (.node j08 [] [] (Q8 x) .nil) 2:=by
 unfold q1k;rw[if_neg (by decide)];refine⟨by decide,rfl,rfl,?_⟩;rw[XOk,if_neg (by decide)];refine⟨by decide,rfl,by omega,rfl,?_,trivial⟩;refine z1m _ _ _ (by decide) (z1m _ _ _ (by decide) (z1m _ _ _ (by decide) (z1m _ _ _ (by decide) ?_)));rw[XOk,if_neg (by decide)];refine⟨by decide,rfl,by omega,?_,trivial,trivial⟩;rw[z0g];exact⟨show z0b j7l=true by decide,rfl,rfl⟩
theorem z8x (m:Nat) (t s:Bs) (r:Fo) (ht:t ≠ []):(Q9 (m + 1) (kidX t s r)).2=max 1 (Q9 (m + 1) r).2:=by
 have h0:(Q9 m (if s=[] then .nil else .node [] [] s .nil .nil)).2=0:=by
  split
  ·cases m <;> rfl
  ·rw[q2s];cases m <;> rfl
 unfold kidX;rw[z0u ht];show max (max 1 ((Q9 m (if s=[] then .nil else .node [] [] s .nil .nil)).2 + 1)) _=_;rw[h0];rfl
theorem z8q (t s:Bs) (r:Fo):(kidX t s r).bulk≤2 + t.length + s.length + r.bulk:=by
 unfold kidX
 by_cases h:s=[]
 ·rw[if_pos h];show 1 + t.length + 0 + 0 + 0 + r.bulk≤_;omega
 ·rw[if_neg h];show 1 + t.length + 0 + 0 + (1 + 0 + s.length + 0 + 0 + 0) + r.bulk≤_;omega
theorem q4t (x:En) (h:x.id.length + x.ti.length + x.li.length + x.ht.length≤400):z3e.length + 0 + Fo.atB [] + (Fo.node j08 [] [] (Q8 x) .nil).bulk≤1000:=by
 have hd:=date_len x.at_
 have h1:=z8q tId x.id (kidX z5z x.ti (kidX tUpd (Y5 x.at_) (kidX q5c x.ht (.node z8t [⟨j7l,x.li⟩] [] .nil .nil))));have h2:=z8q z5z x.ti (kidX tUpd (Y5 x.at_) (kidX q5c x.ht (.node z8t [⟨j7l,x.li⟩] [] .nil .nil)));have h3:=z8q tUpd (Y5 x.at_) (kidX q5c x.ht (.node z8t [⟨j7l,x.li⟩] [] .nil .nil));have h4:=z8q q5c x.ht (.node z8t [⟨j7l,x.li⟩] [] .nil .nil);have h5:(Fo.node z8t [⟨j7l,x.li⟩] [] .nil .nil).bulk≤20 + x.li.length:=by
  show 1 + z8t.length + 0 + Fo.atB [⟨j7l,x.li⟩] + 0 + 0≤_;have:Fo.atB [⟨j7l,x.li⟩]=1 + j7l.length + x.li.length:=by simp[Fo.atB]
  have e1:z8t.length=4:=rfl;have e2:j7l.length=4:=rfl;omega
 have e1:z3e.length=4:=rfl;have e2:tId.length=2:=rfl;have e3:z5z.length=5:=rfl;have e4:tUpd.length=7:=rfl;have e5:q5c.length=7:=rfl;have e6:Fo.atB []=0:=rfl;have e7:(Fo.node j08 [] [] (Q8 x) .nil).bulk=1 + 5 + 0 + 0 + (Q8 x).bulk + 0:=rfl;have e8:(Q8 x).bulk=(kidX tId x.id (kidX z5z x.ti (kidX tUpd (Y5 x.at_) (kidX q5c x.ht (.node z8t [⟨j7l,x.li⟩] [] .nil .nil))))).bulk:=rfl;omega
theorem made_size (x:En) (h:x.id.length + x.ti.length + x.li.length + x.ht.length≤400):(Q9 8 (.node z3e [] [] (.node j08 [] [] (Q8 x) .nil) .nil)).1≤3000∧(Q9 8 (.node z3e [] [] (.node j08 [] [] (Q8 x) .nil) .nil)).2≤8:=by
 constructor
 ·have h1:=(z7g 8 (.node z3e [] [] (.node j08 [] [] (Q8 x) .nil) .nil)).1
  have h2:=q4t x h;have h3:Fo.bulk (.node z3e [] [] (.node j08 [] [] (Q8 x) .nil) .nil)=1 + z3e.length + 0 + Fo.atB [] + (Fo.node j08 [] [] (Q8 x) .nil).bulk + 0:=rfl;omega
 ·rw[z0u (by decide),z0u (by decide)]
  have hk:(Q9 6 (Q8 x)).2≤1:=by
   unfold Q8;rw[z8x 5 _ _ _ (by decide),z8x 5 _ _ _ (by decide),z8x 5 _ _ _ (by decide),z8x 5 _ _ _ (by decide),z0u (by decide)];decide
  have hn:∀ m,(Q9 m .nil).2=0:=fun m=>by cases m <;> rfl
  show max (max 1 (max (max 1 ((Q9 6 (Q8 x)).2 + 1)) (Q9 7 .nil).2 + 1)) (Q9 8 .nil).2≤8;rw[hn,hn];omega
theorem q0f:∀ (f g:Fo),Fo.bulk (f.app g)=Fo.bulk f + Fo.bulk g
 | .nil,g=>by show Fo.bulk g=0 + Fo.bulk g;omega
 | .node n a t k r,g=>by
  have:=q0f r g;show 1 + n.length + t.length + Fo.atB a + Fo.bulk k + Fo.bulk (r.app g)=1 + n.length + t.length + Fo.atB a + Fo.bulk k + Fo.bulk r + Fo.bulk g;omega
theorem j7n (f:Bool) (s:Bs):(z5v f s).length≤s.length:=by
 induction s generalizing f with
 | nil=>exact Lr
 | cons c t ih =>
  unfold z5v
  split
  ·have:=ih false;simp;omega
  ·exact Nat.zero_le _
theorem q1o {s n r:Bs} (h:z06 s=.ok n r):n.length + r.length=s.length∧n.length≤20∧z0b n=true:=by
 unfold z06 at h
 split at h
 ·rename_i hi
  injection h with h1 h2;have:=j7n true s;have hh:=hi;unfold z0b at hh;rw[Bool.and_eq_true,decide_eq_true_iff] at hh;rw[← h1,← h2,List.length_drop];exact⟨by omega,hh.2,hi⟩
 ·cases h
theorem q94 {s v r:Bs} (h:z3a s=.ok v r):v.length + 5 * r.length + 5≤5 * s.length:=by
 unfold z3a at h;simp only at h;generalize (if Mg.pre [39] s=true then (39:UInt8) else 34)=q at h
 cases hn:z0k [q] s with
 | er e=>rw[hn] at h;cases h
 | ok u r1 =>
  rw[hn] at h;simp only at h;have h1:=z1d hn
  cases ht:toX [q] r1 with
  | er e=>rw[ht] at h;cases h
  | ok v1 r2 =>
   rw[ht] at h;simp only at h;have h2:=z9u (by simp) ht;simp only [List.length_cons,List.length_nil] at h1 h2
   split at h
   ·cases h
   split at h
   ·injection h with h3 h4
    have:=take_len v1;rw[← h4,← h3];omega
   ·cases h
theorem q2h {s r:Bs} {a:At} (h:z4k s=.ok a r):1 + a.n.length + a.v.length + 5 * r.length≤5 * s.length:=by
 unfold z4k at h
 cases h1:z06 s with
 | er e=>rw[h1] at h;cases h
 | ok n r1 =>
  rw[h1] at h;simp only at h;have l1:=(q1o h1).1
  cases h2:z0k [61] (V8 r1) with
  | er e=>rw[h2] at h;cases h
  | ok u r2 =>
   rw[h2] at h;simp only at h;have l2:=z1d h2;have l3:=z9f r1;simp only [List.length_cons,List.length_nil] at l2
   cases h3:z3a (V8 r2) with
   | er e=>rw[h3] at h;cases h
   | ok v z =>
    rw[h3] at h;injection h with h4 h5;have l4:=q94 h3;have l5:=z9f r2;rw[← h5,← h4];show 1 + n.length + v.length + _≤_;omega
theorem z9k:∀ (n:Nat) (s:Bs) (out l:List At) (r:Bs),z0o n s out=.ok l r→Fo.atB l + 5 * r.length≤Fo.atB out + 5 * s.length
 | 0,s,out,l,r,h=>by rw[z0o] at h;injection h with h1 h2;rw[← h2,← h1];exact Lr
 | n + 1,s,out,l,r,h=>by
  rw[z0o] at h
  split at h
  ·rename_i hl
   cases hs:V8 s with
   | nil=>rw[hs] at h;injection h with h1 h2;rw[← h2,← h1];simp
   | cons c t =>
    rw[hs] at h hl;simp only at h
    split at h
    ·cases ha:z4k (c :: t) with
     | er e=>rw[ha] at h;cases h
     | ok a r1 =>
      rw[ha] at h;simp only at h;have l1:=q2h ha
      split at h
      ·cases h
      ·have:=z9k n r1 _ l r h
       rw[q40] at this;omega
    ·injection h with h1 h2;rw[← h2,← h1];omega
  ·injection h with h1 h2;rw[← h2,← h1];exact Lr
theorem z7f (f:Fo) (t:Bs):Fo.bulk (z9i f t)≤Fo.bulk f + (1 + t.length):=by
 unfold z9i
 split
 ·omega
 ·have:=Fo.z4y f [] [] t .nil
  have h0:Fo.atB ([]:List At)=0:=rfl;have h1:Fo.bulk .nil=0:=rfl;rw[h0,h1] at this;simp only [List.length_nil] at this;omega
mutual
theorem q2w:∀ (n:Nat) (deep:Int) (s:Bs) (x:El) (r:Bs),z3y n deep s=.ok x r→1 + x.name.length + Fo.atB x.ats + Fo.bulk x.kids + 5 * r.length≤5 * s.length
 | 0,deep,s,x,r,h=>by rw[z3y] at h;cases h
 | n + 1,deep,s,x,r,h=>by
  rw[z3y] at h
  cases h1:z0k [60] s with
  | er e=>rw[h1] at h;cases h
  | ok u1 r1 =>
  rw[h1] at h;simp only at h;have l1:=z1d h1;simp only [List.length_cons,List.length_nil] at l1
  cases h2:z06 r1 with
  | er e=>rw[h2] at h;cases h
  | ok nm r2 =>
  rw[h2] at h;simp only at h;have l2:=(q1o h2).1
  split at h
  ·cases h
  cases h3:z2f r2 with
  | er e=>rw[h3] at h;cases h
  | ok l r3 =>
  rw[h3] at h;simp only at h;have l3:=z9k _ _ _ _ _ h3;have h0:Fo.atB ([]:List At)=0:=rfl;rw[h0] at l3;have hn0:Fo.bulk .nil=0:=rfl
  split at h
  ·injection h with hx hr;rw[← hr,← hx,List.length_drop];simp only [hn0];omega
  cases h4:z0k [62] r3 with
  | er e=>rw[h4] at h;cases h
  | ok u4 r4 =>
  rw[h4] at h;simp only at h;have l4:=z1d h4;simp only [List.length_cons,List.length_nil] at l4
  cases h5:z1l n deep r4 .nil with
  | er e=>rw[h5] at h;cases h
  | ok k r5 =>
  rw[h5] at h;simp only at h;have l5:=z4t n deep r4 .nil k r5 h5;rw[hn0] at l5
  cases h6:z06 r5 with
  | er e=>rw[h6] at h;cases h
  | ok nm2 r6 =>
  rw[h6] at h;simp only at h;have l6:=z4z h6
  split at h
  ·cases h
  cases h7:z0k [62] (V8 r6) with
  | er e=>rw[h7] at h;cases h
  | ok u7 r7 =>
  rw[h7] at h;injection h with hx hr;have l7:=z1d h7;have l8:=z9f r6;simp only [List.length_cons,List.length_nil] at l7;rw[← hr,← hx];show 1 + nm.length + Fo.atB l + Fo.bulk k + _≤_;omega
theorem z4t:∀ (n:Nat) (deep:Int) (s:Bs) (out k:Fo) (r:Bs),z1l n deep s out=.ok k r→Fo.bulk k + 5 * r.length≤Fo.bulk out + 5 * s.length
 | 0,deep,s,out,k,r,h=>by rw[z1l] at h;cases h
 | n + 1,deep,s,out,k,r,h=>by
  rw[z1l] at h
  split at h
  ·rename_i hp
   have:=z1a hp;injection h with hk hr;simp only [List.length_cons,List.length_nil] at this;rw[← hr,← hk,List.length_drop];omega
  split at h
  ·rename_i hp
   have:=z1a hp;simp only [List.length_cons,List.length_nil] at this
   cases h1:toX [93,93,62] (s.drop 9) with
   | er e=>rw[h1] at h;cases h
   | ok t1 r1 =>
    rw[h1] at h;simp only at h;have l1:=z9u (by simp) h1;rw[List.length_drop] at l1;have:=z4t n deep r1 _ k r h;have:=z7f out t1;omega
  cases ha:z1c s with
  | some x =>
   rw[ha] at h
   cases x with
   | er e=>cases h
   | ok u r1 =>
    simp only at h;have:=z3n ha;have:=z4t n deep r1 _ k r h;omega
  | none =>
   rw[ha] at h;simp only at h
   split at h
   ·cases he:z3y n (deep + 1) s with
    | er e=>rw[he] at h;cases h
    | ok x r1 =>
     rw[he] at h;simp only at h;have l1:=q2w n (deep + 1) s x r1 he;have l2:=z4t n deep r1 _ k r h;rw[q0f] at l2;have h0:Fo.bulk (.node x.name x.ats [] x.kids .nil)=1 + x.name.length + 0 + Fo.atB x.ats + Fo.bulk x.kids + 0:=rfl;omega
   ·rename_i hno
    cases hz:z0c [60] s with
    | none=>rw[hz] at h;cases h
    | some y =>
     rw[hz] at h;simp only at h
     split at h
     ·have l2:=z4t n deep _ _ k r h
      rw[List.length_drop] at l2;have hy:=z5e [60] (by simp) s y hz;simp only [List.length_cons,List.length_nil] at hy;have h0:=List.length_pos_iff.2 (q3y (by simpa using hno) hz);have l3:=z7f out (take y.1).1;have l4:=take_len y.1;omega
     ·cases h
end
end Fd
namespace Go.Proofs.YtjonkbdldebkiaaGreatDoor
open Go.RowKit
structure AtI (w wx:World) (R:Nat) (s:ByteArray) (j:Nat) (o:Value) (out:List Mk.At):Prop where
 rl:R < w.heap.size
 x:Xr wx R s j
 ap:Ap (fun b=>b=R) w wx
 ow:wx.ownsRow w.heap.size 56 2 o out.length (Y8 out)
structure AtJ (w wx:World) (R:Nat) (s:ByteArray) (j:Nat) (o:Value) (out:List Mk.At) (P:Nat) (nm v:List UInt8):Prop where
 i:AtI w wx R s j o out
 pl:w.heap.size≤P
 po:o.ownBlock ≠ some P
 pb:Blk wx P 56 #[.string (st nm),.string (st v)]
section
variable {w wx wy : World} {R : Nat} {s : ByteArray} {j j' : Nat} {o : Value} {out : List Mk.At} {P : Nat} {nm v : List UInt8}
theorem AtI.not (h:AtI w wx R s j o out):∀ g,w.heap.size≤g→¬ (fun b=>b=R) g:=by
 intro g hg e;have e:g=R:=e;have:=h.rl;omega
theorem AtI.moved (h:AtI w wx R s j o out) (hm:Moved R wx wy) (hx:Xr wy R s j'):AtI w wy R s j' o out:=⟨h.rl,hx,h.ap.trans hm.ap,z2g h.ow hm.ap h.not⟩
theorem AtI.below (h:AtI w wx R s j o out) (hb:Below wx.heap.size wx wy):AtI w wy R s j o out :=
 ⟨h.rl,(hb.block R (Blk.lt h.x)).trans h.x,h.ap.trans (Ap.of_below hb),z2g h.ow (Ap.of_below (S:=fun b=>b=R) hb) h.not⟩
theorem AtI.drewN (h:AtI w wx R s j o out) (n:Nat):AtI w (wx.drewN n) R s j o out:=h.moved ((Moved.refl R wx).drewN n) (h.x.drewN n)
theorem AtI.gl (h:AtI w wx R s j o out) (hg:Gl w) (hR:4 < R):Gl wx:=hg.ap h.ap (by intro e;have e:0=R:=e;omega) (by intro e;have e:4=R:=e;omega)
theorem AtI.new (h:AtI w wx R s j o out) (nm:List UInt8):AtJ w (wx.alloc (.cells #[.string (st nm),.string ⟨#[]⟩] 56)) R s j o out wx.heap.size nm [] :=
 ⟨h.below ((Below.refl _ wx).alloc (Lr) _),h.ap.size,fun e=>absurd (h.ow.lt _ e).2 (Nat.lt_irrefl _),Blk.new wx _ _⟩
theorem AtJ.ne (h:AtJ w wx R s j o out P nm v):P ≠ R:=by
 have h1:=h.i.rl;have h2:=h.pl;omega
theorem AtJ.moved (h:AtJ w wx R s j o out P nm v) (hm:Moved R wx wy) (hx:Xr wy R s j'):AtJ w wy R s j' o out P nm v:=⟨h.i.moved hm hx,h.pl,h.po,hm.blk h.pb h.ne⟩
theorem AtJ.below (h:AtJ w wx R s j o out P nm v) (hb:Below wx.heap.size wx wy):AtJ w wy R s j o out P nm v:=⟨h.i.below hb,h.pl,h.po,(hb.block P (Blk.lt h.pb)).trans h.pb⟩
theorem AtJ.drewN (h:AtJ w wx R s j o out P nm v) (n:Nat):AtJ w (wx.drewN n) R s j o out P nm v:=h.moved ((Moved.refl R wx).drewN n) (h.i.x.drewN n)
theorem AtJ.set_ (h:AtJ w wx R s j o out P nm v) (v':List UInt8):AtJ w (wx.setCell ⟨P,1,none⟩ (.string (st v'))) R s j o out P nm v' :=
 ⟨⟨h.i.rl,Blk.far h.i.x (p:=⟨P,1,none⟩) (fun e=>h.ne e.symm) _,h.i.ap.setNew (p:=⟨P,1,none⟩) h.pl _,ownsRow_setCell_other h.i.ow (a:=⟨P,1,none⟩) h.po _⟩,h.pl,h.po,Blk.set_ h.pb 1 _⟩
theorem AtJ.pushed (h:AtJ w wx R s j o out P nm v) {cs:Array Value} {T:TypeId} {v':Value} {wz:World}
  (hown:wz.ownsRow w.heap.size 56 2 v' (out.length + 1) (Y8 out++[.string (st nm),.string (st v)])) (hgr:(wx.alloc (.cells cs T)).grownBy wz o.ownBlock):AtI w wz R s j v' (out++[⟨nm,v⟩]):=by
 refine⟨h.i.rl,?_,(h.i.ap.alloc (.cells cs T)).grown hgr (fun k hk e=>absurd hk (by have:=(h.i.ow.lt k e).1;omega)),?_⟩
 ·exact(hgr.block R (by have:=Blk.lt h.i.x;simp;omega) (fun e=>h.i.not R (h.i.ow.lt R e.symm).1 rfl)).trans (Blk.alloc h.i.x _)
 ·rw[List.length_append,show Y8 (out++[(⟨nm,v⟩:Mk.At)])=Y8 out++[.string (st nm),.string (st v)] by simp[Y8]]
  exact hown
end
end Go.Proofs.YtjonkbdldebkiaaGreatDoor
namespace Go.Proofs.YtjonkbdldebkiaaGreatDoor
open Go.Proofs.Tryz Go.RowKit
section
variable {w w' : World} {R : Nat} {s : ByteArray} {k : Nat}
def q1c (j j1:Nat) (l:List UInt8):Bool:=decide (j < j1) && (match l with | []=>false | c :: _=>Fd.z2d true c)
theorem j3x {w0:World} {j:Nat} {o:Value} {out:List Mk.At} {P:Nat} {nm v:List UInt8} (p:List UInt8) (h:AtJ w0 w R s j o out P nm v) (hk:j≤s.size) (hs:s.size≤100000) :
  Calls prog 216 #[.pointer (some ⟨R,0,none⟩),.string (st p)] w fun e w'=>e=.returned (.bool (Mg.pre p (s.data.toList.drop j)))∧AtJ w0 w' R s j o out P nm v:=by
 refine(z5d p h.i.x hk (by omega)).mono ?_;rintro e w1 ⟨rfl,n,hw⟩;subst hw;exact⟨rfl,h.drewN n⟩
theorem j0l {w0:World} {j:Nat} {o:Value} {out:List Mk.At} {P:Nat} {nm v:List UInt8} (p:List UInt8) (h:AtJ w0 w R s j o out P nm v) (hk:j≤s.size) (hs:s.size≤100000) :
  Calls prog 213 #[.pointer (some ⟨R,0,none⟩),.string (st p)] w fun e w'=>(Fd.z0k p (s.data.toList.drop j)=.ok () (s.data.toList.drop (j + p.length))∧j + p.length≤s.size∧e=.returned (.tuple #[])∧AtJ w0 w' R s (j + p.length) o out P nm v)∨(Fd.z0k p (s.data.toList.drop j)=.er 1∧e=GaveX 1∧AtJ w0 w' R s j o out P nm v):=by
 refine(j8c p h.i.x hk (by omega)).mono ?_;rintro e w1 (⟨h1,h2,h3,h4,h5⟩ | ⟨h1,h2,n,h3⟩)
 ·exact .inl ⟨by rw[Fd.z0k,if_pos h1,List.drop_drop],h2,h3,h.moved h5 h4⟩
 ·subst h3
  exact .inr ⟨by rw[Fd.z0k,if_neg (by rw[h1];simp)],h2,h.drewN n⟩
theorem q7h {w0:World} {j:Nat} {o:Value} {out:List Mk.At} {P:Nat} {nm v:List UInt8} (h:AtJ w0 w R s j o out P nm v) (hk:j≤s.size) (hs:s.size≤100000) :
  Calls prog 211 #[.pointer (some ⟨R,0,none⟩)] w fun e w'=>∃ j1,j≤j1∧j1≤s.size∧s.data.toList.drop j1=Fd.V8 (s.data.toList.drop j)∧e=.returned (.int .i64 ((j1:Int) - j))∧AtJ w0 w' R s j1 o out P nm v:=by
 refine(q0d h.i.x hk (by omega)).mono ?_;rintro e w1 ⟨j1,h1,h2,h3,h4,h5,h6⟩;exact⟨j1,h1,h2,h4,h3,h.moved h6 h5⟩
theorem xr_toA {w0:World} {j:Nat} {o:Value} {out:List Mk.At} {P:Nat} {nm v:List UInt8} (p:List UInt8) (hp:p ≠ []) (hpl:p.length≤3) (hg:Gl w0) (hR:4 < R) (h:AtJ w0 w R s j o out P nm v) (hk:j≤s.size) (hs:s.size≤100000) :
  Calls prog 251 #[.pointer (some ⟨R,0,none⟩),.string (st p)] w fun e w'=>(Fd.toX p (s.data.toList.drop j)=.er 1∧e=GaveX 1∧AtJ w0 w' R s j o out P nm v)∨∃ a j1,Fd.toX p (s.data.toList.drop j)=.ok a (s.data.toList.drop j1)∧e=.returned (.string (st a))∧a.length≤s.size∧j < j1∧j1≤s.size∧AtJ w0 w' R s j1 o out P nm v:=by
 refine(xr_to p (h.i.gl hg hR) h.i.x hk (by omega) hp hpl).mono ?_;rintro e w1 (⟨h1,h2,n,h3⟩ | ⟨a,j1,h1,h2,h3,h4,h5,h6⟩)
 ·subst h3
  exact .inl ⟨by rw[Fd.toX,h1],h2,h.drewN n⟩
 ·have ht:Fd.toX p (s.data.toList.drop j)=.ok a (s.data.toList.drop j1):=by rw[Fd.toX,h1]
  have:=Fd.z9u hp ht;rw[List.length_drop,List.length_drop,bs_len] at this;exact .inr ⟨a,j1,ht,h2,by omega,h3,h4,h.moved h6 h5⟩
theorem xm_toldA {w0:World} {j:Nat} {o:Value} {out:List Mk.At} {P:Nat} {nm v:List UInt8} (x:List UInt8) (hx:x.length≤100000) (hg:Gl w0) (hR:4 < R) (h:AtJ w0 w R s j o out P nm v) :
  Calls prog 253 #[.string (st x)] w fun e w'=>AtJ w0 w' R s j o out P nm v∧(((Mk.take x).2=true∧e=.returned (.string (st (Mk.take x).1)))∨((Mk.take x).2=false∧e=GaveX 1)):=by
 refine(q96 x w (by omega) (h.i.gl hg hR)).mono ?_;rintro e w1 ⟨h1,h2⟩;exact⟨h.below h1,h2⟩
theorem j1n (x:List UInt8):Lib.contains x [60]=x.contains 60:=by
 unfold Lib.contains
 induction x with
 | nil=>rfl
 | cons c t ih =>
  unfold Lib.index;have hge:=Lib.index_ge t [60]
  by_cases hc:c=60
  ·subst hc;rfl
  ·have h1:([60]:List UInt8).isPrefixOf (c :: t)=false:=by
    rw[Bool.eq_false_iff];intro q;simp[List.isPrefixOf] at q;exact hc q.symm
   rw[h1];rw[List.contains_cons,← ih,show ((60:UInt8) == c)=false from beq_eq_false_iff_ne.2 (fun e=>hc e.symm),Bool.false_or];simp only [Bool.false_eq_true,if_false]
   by_cases h2:Lib.index t [60] = -1
   ·simp[h2]
   ·have h3:(Lib.index t [60] == -1)=false:=beq_eq_false_iff_ne.2 h2
    rw[h3];simp only [Bool.false_eq_true,if_false];rw[Bool.eq_iff_iff];simp;omega
end
end Go.Proofs.YtjonkbdldebkiaaGreatDoor
namespace Go
section
variable {P : Program} {Q : Exit→Act→World→Prop} {a : Act} {w : World} {o0 o1 : Oper} {l : List Oper}
theorem z3w {id:Nat} (hm:P.follows .mixedOrders=true) (hs:Region.noSelect (o0 :: o1 :: l).toArray=true)
  (h0:Region.ready .any (o0 :: o1 :: l).toArray (Array.replicate (o0 :: o1 :: l).toArray.size false)=[0])
  (h1:Region.ready .any (o0 :: o1 :: l).toArray ((Array.replicate (o0 :: o1 :: l).toArray.size false).setIfInBounds 0 true)=[1])
  (hB:Region.lexFrom .any (o0 :: o1 :: l).toArray l.length 2 (((Array.replicate (o0 :: o1 :: l).toArray.size false).setIfInBounds 0 true).setIfInBounds 1 true)=true)
  (g0:o0.guard=none) (g1:o1.guard=none)
  (h:o0.wp P a w.drew (fun a0 w0=>o1.wp P a0 w0 (fun a1 w1=>wpQuiet P (o0 :: o1 :: l).toArray (fun w'=>∃ n,w'=w1.drewN n) (fun a'=>∀ w',(∃ n,w'=w1.drewN n)→Q .normal a' w') l a1) Q) Q) :
  (Code.region id (o0 :: o1 :: l).toArray true).wp P Q a w:=by
 refine wp_region_any hm ?_;have hsz:(o0 :: o1 :: l).toArray.size=l.length + 1 + 1:=by simp
 have wn:∀ (o:Oper) (ts:Nat→Option Bool),o.guard=none→Region.wanted o ts=true:=by
  intro o ts hg;unfold Region.wanted;rw[hg]
 show wpAny P .any (o0 :: o1 :: l).toArray Q (o0 :: o1 :: l).toArray.size _ a w.drew;have main:∀ listed:Array Bool,listed=Array.replicate (o0 :: o1 :: l).toArray.size false→wpAny P .any (o0 :: o1 :: l).toArray Q (l.length + 1 + 1) listed a w.drew:=by
  intro listed hl;subst hl;refine⟨fun e=>by rw[h0] at e;(cases e),fun i hi=>?_⟩;rw[h0] at hi;have hi:i=0:=by simpa using hi
  subst hi;unfold wpOp;have e0:(o0 :: o1 :: l).toArray[0]? = some o0:=rfl;rw[e0];simp only;rw[if_pos (wn o0 _ g0)];refine .inl (Oper.wp_mono (fun a0 w0 hh=>?_) h);refine⟨fun e=>by rw[h1] at e;(cases e),fun i hi=>?_⟩;rw[h1] at hi;have hi:i=1:=by simpa using hi
  subst hi;unfold wpOp;have e1:(o0 :: o1 :: l).toArray[1]? = some o1:=rfl;rw[e1];simp only;rw[if_pos (wn o1 _ g1)];refine .inl (Oper.wp_mono (fun a1 w1 hh=>?_) hh);refine wpAny_of_quiet (C:=fun w'=>∃ n,w'=w1.drewN n) (Q:=fun a'=>∀ w',(∃ n,w'=w1.drewN n)→Q .normal a' w') (fun _ w' hw' h=>h w' hw') _ _ _ _ ⟨0,rfl⟩ ?_;exact wpAnyQ_lex hs l 2 _ _ (fun j=>by simp[Nat.add_comm 2 j]) hB hh
 rw[hsz];exact main _ (by rw[hsz])
end
end Go
namespace Fd
open Mk
def z5y (s:Bs):UInt8:=if Mg.pre [39] s=true then 39 else 34
theorem attrX_t {s:Bs} {e:Int} (h:z06 s=.er e):z4k s=.er e:=by rw[z4k,h]
theorem attrX_n {s nm r:Bs} {e:Int} (h:z06 s=.ok nm r) (h2:z0k [61] (V8 r)=.er e):z4k s=.er e:=by rw[z4k,h];simp only;rw[h2]
theorem attrX_v {s nm r z:Bs} {u:Unit} (h:z06 s=.ok nm r) (h2:z0k [61] (V8 r)=.ok u z):z4k s=match z3a (V8 z) with | .er e=>.er e | .ok v y=>.ok ⟨nm,v⟩ y:=by rw[z4k,h];simp only;rw[h2];rfl
theorem valueX_n {s:Bs} {e:Int} (h:z0k [z5y s] s=.er e):z3a s=.er e:=by
 unfold z5y at h;unfold z3a;simp only;rw[h]
theorem valueX_t {s r:Bs} {u:Unit} {e:Int} (h:z0k [z5y s] s=.ok u r) (h2:toX [z5y s] r=.er e):z3a s=.er e:=by
 unfold z5y at h h2;unfold z3a;simp only;rw[h];simp only;rw[h2]
theorem valueX_c {s r v z:Bs} {u:Unit} (h:z0k [z5y s] s=.ok u r) (h2:toX [z5y s] r=.ok v z):z3a s=if v.contains 60 then .er 1 else if (Mk.take v).2 then .ok (Mk.take v).1 z else .er 1:=by
 unfold z5y at h h2;unfold z3a;simp only;rw[h];simp only;rw[h2]
end Fd
namespace Go.Proofs.YtjonkbdldebkiaaGreatDoor
open Go.Proofs.Tryz Go.RowKit
section
variable {w w' : World} {R : Nat} {s : ByteArray} {k : Nat}
theorem xr_attrs (hg:Gl w) (hR:4 < R) (h:Xr w R s k) (hk:k≤s.size) (hs:s.size≤100000) :
  Calls prog 215 #[.pointer (some ⟨R,0,none⟩)] w fun e w' =>
   (∃ er,Fd.z2f (s.data.toList.drop k)=.er er∧e=GaveX er∧Ap (fun b=>b=R) w w') ∨
   ∃ l j v,Fd.z2f (s.data.toList.drop k)=.ok l (s.data.toList.drop j)∧e=.returned v∧k≤j∧j≤s.size∧Mk.Fo.atB l≤5 * j∧AtI w w' R s j v l:=by
 have HG:=Ld hg;have HX:=Ld h;clear hg h;go_enter func215,ntmps215;go_wp2_with fail
 go_loopg [3] s.size (fun g o wx=>∃ j out,k≤j∧j≤s.size∧s.size≤j + g∧Mk.Fo.atB out≤5 * j∧Hid (Fd.z2f (s.data.toList.drop k)=Fd.z4b (s.data.toList.drop j) out)∧Hid (AtI w wx R s j o out))
 case atStart=>exact⟨k,[],Lr,hk,by omega,Nat.zero_le _,rfl,⟨Blk.lt HX.out,HX.out,Ap.refl _ _,World.ownsRow_nil _ _ _ _⟩⟩
 case round =>
  obtain⟨j,out,hkj,hjs,hfu,hab,HA,I⟩:=hrel;obtain⟨j1,hjj1,hjs1,hd1⟩:=skip_at s j hjs;have HD1:=Ld hd1;have HW:=Ld (j4a (w:=wr.drew) (Blk.drew I.out.x) hjs (by omega) hjs1 hd1);clear hd1;obtain⟨b,hb⟩:∃ b,q1c j j1 (s.data.toList.drop j1)=b:=⟨_,rfl⟩;have HB:=Ld hb;clear hb;go_upto_region 2 with fail
  go_cut [33] (fun x wx=>x=.bool b∧Hid (AtI w wx R s j1 u3 out))
  case first =>
   as_aux_lemma =>
   have HC0:Hid (wr.drew.cell? ⟨R,0,none⟩=some (.string s)):=(I.out.drewN 1).x.c0
   by_cases hlt:j < j1
   ·have hp:(0:Int) < (j1:Int) - j:=by omega
    by_cases hlt1:j1 < s.size
    ·have hdr:=z09 s j1 hlt1
     have hb:Fd.z2d true s[j1]=b:=by
      have:=HB.out;unfold q1c at this;rw[hdr,decide_eq_true hlt] at this;exact this
     have HT:=Ld (fun W=>z4j s[j1] true W);rw[hb] at HT;have hj1:(j1:Int) < s.size:=by omega
     clear hb hdr;refine z3w (by kernel_rfl) (by kernel_rfl) (by kernel_rfl) (by kernel_rfl) (by kernel_rfl) rfl rfl ?_;go_wp2_with fail;refine HW.out.mono ?_;rintro e w7 ⟨rfl,X7,MV7⟩;have d0:=X7.c0;have d1:=X7.c1;have I7:=Ld ((I.out.drewN 1).moved MV7 X7);clear X7 MV7
     dsimp only
     repeat (quiet_step ((go_at_call 218;exact Calls.quiet_of_same (HT.out _))))
     with_reducible refine wpQuiet_nil ?_
     intro nq
     all_goals
      go_wp2_with fail;go_meet
      case rel=>exact⟨rfl,I7.out.drewN nq⟩
    ·have hb:false=b:=by
      have:=HB.out;unfold q1c at this;rw[List.drop_of_length_le (by rw[bs_len];omega),Bool.and_false] at this;exact this
     subst hb;have hj1:¬ (j1:Int) < s.size:=by omega
     refine z3w (by kernel_rfl) (by kernel_rfl) (by kernel_rfl) (by kernel_rfl) (by kernel_rfl) rfl rfl ?_;go_wp2_with fail;refine HW.out.mono ?_;rintro e w7 ⟨rfl,X7,MV7⟩;have d0:=X7.c0;have d1:=X7.c1;have I7:=Ld ((I.out.drewN 1).moved MV7 X7);clear X7 MV7
     dsimp only
     repeat (with_reducible refine wpQuiet_step (fun K hK=>?_);go_simp;with_reducible refine hK _ ?_;clear hK K)
     with_reducible refine wpQuiet_nil ?_
     intro nq
     all_goals
      go_wp2_with fail;go_meet
      case rel=>exact⟨rfl,I7.out.drewN nq⟩
   ·have hb:false=b:=by
     have:=HB.out;unfold q1c at this;rw[decide_eq_false hlt,Bool.false_and] at this;exact this
    subst hb;have hp:¬ (0:Int) < (j1:Int) - j:=by omega
    refine z3w (by kernel_rfl) (by kernel_rfl) (by kernel_rfl) (by kernel_rfl) (by kernel_rfl) rfl rfl ?_;go_wp2_with fail;refine HW.out.mono ?_;rintro e w7 ⟨rfl,X7,MV7⟩;have d0:=X7.c0;have d1:=X7.c1;have I7:=Ld ((I.out.drewN 1).moved MV7 X7);clear X7 MV7
    dsimp only
    repeat (with_reducible refine wpQuiet_step (fun K hK=>?_);go_simp;with_reducible refine hK _ ?_;clear hK K)
    with_reducible refine wpQuiet_nil ?_
    intro nq
    all_goals
     go_wp2_with fail;go_meet
     case rel=>exact⟨rfl,I7.out.drewN nq⟩
  case rest =>
   as_aux_lemma =>
   obtain⟨rfl,I1⟩:=hcut;clear I HW;have hlen:(Fd.V8 (s.data.toList.drop j)).length < (s.data.toList.drop j).length↔j < j1:=by
    rw[← HD1.out,List.length_drop,List.length_drop,bs_len];omega
   have HLEN:=Ld hlen;clear hlen
   cases b with
   | false =>
    have HE:Hid (Fd.z2f (s.data.toList.drop k)=.ok out (s.data.toList.drop j1)):=by
     show _=_;rw[HA.out]
     by_cases hlt:j < j1
     ·have hl:=HLEN.out.2 hlt
      by_cases hlt1:j1 < s.size
      ·have hdr:=z09 s j1 hlt1
       have hb:=HB.out;unfold q1c at hb;rw[hdr,decide_eq_true hlt,Bool.true_and] at hb;rw[hdr];exact Fd.j0y hl (by rw[← HD1.out,hdr]) hb
      ·have hn:s.data.toList.drop j1=[]:=List.drop_of_length_le (by rw[bs_len];omega)
       rw[hn];exact Fd.j0z hl (by rw[← HD1.out,hn])
     ·have hje:j=j1:=by omega
      subst hje;exact Fd.j4i (fun q=>hlt (HLEN.out.1 q))
    go_wp2_with fail;go_ret;exact .inr ⟨out,j1,_,HE.out,rfl,by omega,hjs1,by omega,I1.out⟩
   | true =>
    have hlt:j < j1:=by
     have:=HB.out;unfold q1c at this;rw[Bool.and_eq_true,decide_eq_true_iff] at this;exact this.1
    have HC:Hid (∃ c t,s.data.toList.drop j1=c :: t∧Fd.z2d true c=true):=by
     have:=HB.out;unfold q1c at this;rw[Bool.and_eq_true] at this
     cases hd:s.data.toList.drop j1 with
     | nil=>rw[hd] at this;exact absurd this.2 (by simp)
     | cons c t=>rw[hd] at this;exact⟨c,t,rfl,this.2⟩
    have HER:Hid (∀ er,Fd.z4k (s.data.toList.drop j1)=.er er→Fd.z2f (s.data.toList.drop k)=.er er):=by
     intro er he;obtain⟨c,t,h1,h2⟩:=HC.out;rw[HA.out];exact Fd.j4h (HLEN.out.2 hlt) (by rw[← HD1.out,h1]) h2 (by rw[← h1];exact he)
    have HOK:Hid (∀ (a:Mk.At) (r:List UInt8),Fd.z4k (s.data.toList.drop j1)=.ok a r→Fd.z2f (s.data.toList.drop k)=if Mk.z14 Fd.z0b [] (out++[a]) ≠ 0 then .er 6 else Fd.z4b r (out++[a])):=by
     intro a r he;obtain⟨c,t,h1,h2⟩:=HC.out;rw[HA.out]
     by_cases hc:Mk.z14 Fd.z0b [] (out++[a])=0
     ·rw[if_neg (fun q=>q hc)]
      exact Fd.q7u (HLEN.out.2 hlt) (by rw[← HD1.out,h1]) h2 (by rw[← h1];exact he) hc
     ·rw[if_pos hc]
      exact Fd.j0x (HLEN.out.2 hlt) (by rw[← HD1.out,h1]) h2 (by rw[← h1];exact he) hc
    clear HA HB HD1 HLEN HC;have HT:=Ld (q5l I1.out.x hjs1 (by omega));go_wp2_with fail;refine HT.out.mono ?_;rintro e w2 (⟨ht,rfl,hm⟩ | ⟨nm,j2,ht,rfl,hj2,hjs2,hx,hm,hit⟩)
    ·have AP:=Ld (I1.out.ap.trans hm.ap)
     have HE:=Ld (HER.out 1 (Fd.attrX_t ht));clear hm ht HT;go_wp2_with fail;exact⟨rfl,.inl ⟨1,HE.out,rfl,AP.out⟩⟩
    have HTI:=Ld ht;have HIT:=Ld hit;have I2:=Ld (I1.out.moved hm hx);have J2:=Ld (I2.out.new nm);clear hm hx hit HT I1 ht;obtain⟨P,hP⟩:∃ P,P=w2.heap.size:=⟨_,rfl⟩;rw[← hP] at J2;go_upto_region 4 with fail;rw[← hP];generalize w2.alloc (.cells #[.string (st nm),.string ⟨#[]⟩] 56)=w3 at J2 ⊢;clear hP I2;have HW3:=Ld (q7h J2.out hjs2 hs);go_wp2_with fail;refine HW3.out.mono ?_;rintro e w4 ⟨j3,hj3,hjs3,hd3,rfl,hJ4⟩;have J4:=Ld hJ4;have HD3:=Ld hd3;clear hJ4 hd3 HW3 J2;have HN4:=Ld (j0l [61] J4.out hjs3 hs);go_wp2_with fail;refine HN4.out.mono ?_;rintro e w5 (⟨hn,hjs4,rfl,hJ5⟩ | ⟨hn,rfl,hJ5⟩)
    case inr =>
     have AP:=Ld hJ5.i.ap;have HE:=Ld (HER.out 1 (Fd.attrX_n HTI.out (by rw[← HD3.out];exact hn)));clear hn hJ5 HN4;go_wp2_with fail;exact⟨rfl,.inl ⟨1,HE.out,rfl,AP.out⟩⟩
    have HAV:Hid (Fd.z4k (s.data.toList.drop j1)=match Fd.z3a (Fd.V8 (s.data.toList.drop (j3 + 1))) with | .er e=>.er e | .ok v y=>.ok ⟨nm,v⟩ y):=Fd.attrX_v HTI.out (by rw[← HD3.out];exact hn);have J5:=Ld hJ5;have J5:Hid (AtJ w w5 R s (j3 + 1) u3 out P nm []):=J5;clear hn hJ5 HN4 HTI HD3 J4;have hjs4:j3 + 1≤s.size:=hjs4;have HW5:=Ld (q7h J5.out hjs4 hs);go_wp2_with fail;refine HW5.out.mono ?_;rintro e w6 ⟨j5,hj5,hjs5,hd5,rfl,hJ6⟩;have J6:=Ld hJ6;rw[← hd5] at HAV;clear hJ6 hd5 HW5 J5;have HB6:=Ld (j3x [39] J6.out hjs5 hs);go_wp2_with fail;refine HB6.out.mono ?_;rintro e w7 ⟨rfl,hJ7⟩;have J7:=Ld hJ7;clear hJ7 HB6 J6;go_upto_if 44 with fail
    go_cut [5] (fun x wx=>x=.string (st [Fd.z5y (s.data.toList.drop j5)])∧w7=wx)
    case first =>
     as_aux_lemma =>
     obtain⟨bq,hbq⟩:∃ bq,Mg.pre [39] (s.data.toList.drop j5)=bq:=⟨_,rfl⟩;have HQ:Hid (Fd.z5y (s.data.toList.drop j5)=if bq=true then 39 else 34):=by show _=_;rw[Fd.z5y,hbq]
     rw[hbq];clear hbq
     cases bq with
     | true =>
      go_wp2_with fail;go_meet
      case rel=>exact⟨by rw[HQ.out];rfl,rfl⟩
     | false =>
      go_wp2_with fail;go_meet
      case rel=>exact⟨by rw[HQ.out];rfl,rfl⟩
    case rest =>
     as_aux_lemma =>
     obtain⟨rfl,hw⟩:=hcut;subst hw;have HVN:=Ld (fun er h=>Fd.valueX_n (s:=s.data.toList.drop j5) (e:=er) h);have HVT:=Ld (fun r er h h2=>Fd.valueX_t (s:=s.data.toList.drop j5) (u:=()) (r:=r) (e:=er) h h2);have HVC:=Ld (fun r v z h h2=>Fd.valueX_c (s:=s.data.toList.drop j5) (u:=()) (r:=r) (v:=v) (z:=z) h h2);generalize Fd.z5y (s.data.toList.drop j5)=q at HVN HVT HVC ⊢;have HN7:=Ld (j0l [q] J7.out hjs5 hs);go_wp2_with fail;refine HN7.out.mono ?_;rintro e w8 (⟨hn,hjs6,rfl,hJ8⟩ | ⟨hn,rfl,hJ8⟩)
     case inr =>
      have AP:=Ld hJ8.i.ap;have HE:=Ld (HER.out 1 (by rw[HAV.out,HVN.out 1 hn]));clear hn hJ8 HN7;go_wp2_with fail;exact⟨rfl,.inl ⟨1,HE.out,rfl,AP.out⟩⟩
     have J8:=Ld hJ8;have HN:=Ld hn;have hjs6:j5 + 1≤s.size:=hjs6;have J8:Hid (AtJ w w8 R s (j5 + 1) u3 out P nm []):=J8;have HN:Hid (Fd.z0k [q] (s.data.toList.drop j5)=.ok () (s.data.toList.drop (j5 + 1))):=HN;clear hn hJ8 HN7 J7;have HT8:=Ld (xr_toA [q] (by simp) (by simp) HG.out hR J8.out hjs6 hs);go_wp2_with fail;refine HT8.out.mono ?_;rintro e w9 (⟨ht,rfl,hJ9⟩ | ⟨a,j7,ht,rfl,hal,hj7,hjs7,hJ9⟩)
     ·have AP:=Ld hJ9.i.ap
      have HE:=Ld (HER.out 1 (by rw[HAV.out,HVT.out _ 1 HN.out ht]));clear ht hJ9 HT8;go_wp2_with fail;exact⟨rfl,.inl ⟨1,HE.out,rfl,AP.out⟩⟩
     have HV:Hid (Fd.z3a (s.data.toList.drop j5)=if a.contains 60 then .er 1 else if (Mk.take a).2 then .ok (Mk.take a).1 (s.data.toList.drop j7) else .er 1):=HVC.out _ _ _ HN.out ht;have J9:=Ld hJ9;clear ht hJ9 HT8 J8 HN HVN HVT HVC;have hcc:∀ W:World,Gl W→Calls prog 252 #[.string (st a),.string (st [60])] W fun e w'=>e=.returned (.bool (a.contains 60))∧w'=W:=by
      intro W hW;obtain⟨m,hm⟩:=hW.ml;have:=Tryz.strings_Contains (st a) (st [60]) m W (by rw[Z4];omega) hm;rw[z1o,z1o,j1n] at this;exact this
     have HCC:=Ld (hcc w9 (J9.out.i.gl HG.out hR));clear hcc;obtain⟨bc,hbc⟩:∃ bc,a.contains 60=bc:=⟨_,rfl⟩;rw[hbc] at HCC HV;clear hbc
     cases bc with
     | true =>
      have HE:=Ld (HER.out 1 (by rw[HAV.out,HV.out];rfl));go_wp2_with fail;refine HCC.out.mono ?_;rintro e w10 ⟨rfl,hw10⟩;subst w10;go_wp2_with fail;refine(z3x 1 _).mono ?_;rintro e w10 ⟨rfl,hw10⟩;subst w10;go_wp2_with fail;exact⟨rfl,.inl ⟨1,HE.out,rfl,J9.out.i.ap⟩⟩
     | false =>
      go_wp2_with fail;refine HCC.out.mono ?_;rintro e w10 ⟨rfl,hw10⟩;subst w10;have HTO:=Ld (xm_toldA a (by omega) HG.out hR J9.out);clear HCC;go_wp2_with fail;refine HTO.out.mono ?_;rintro e w10 ⟨hJ10,⟨hk2,rfl⟩ | ⟨hk2,rfl⟩⟩
      case inr =>
       have AP:=Ld hJ10.i.ap;have HE:=Ld (HER.out 1 (by rw[HAV.out,HV.out,hk2];rfl));clear hk2 hJ10 HTO;go_wp2_with fail;exact⟨rfl,.inl ⟨1,HE.out,rfl,AP.out⟩⟩
      have HAX:Hid (Fd.z4k (s.data.toList.drop j1)=.ok ⟨nm,(Mk.take a).1⟩ (s.data.toList.drop j7)):=by show _=_;rw[HAV.out,HV.out,hk2];rfl
      have J10:=Ld hJ10;have HOK2:=Ld (HOK.out _ _ HAX.out);have hbk:=Fd.q2h HAX.out;rw[List.length_drop,List.length_drop,bs_len] at hbk;generalize (Mk.take a).1=va at J10 HOK2 hbk ⊢;have hbk2:Mk.Fo.atB (out++[⟨nm,va⟩])≤5 * j7:=by
       rw[Mk.q40];have hbk':1 + nm.length + va.length + 5 * (s.size - j7)≤5 * (s.size - j1):=hbk;show Mk.Fo.atB out + (1 + nm.length + va.length)≤_;omega
      have hol:out.length + 1≤5 * j7:=by
       have:=Mk.z5f (out++[(⟨nm,va⟩:Mk.At)]);rw[List.length_append,List.length_singleton] at this;omega
      clear hk2 hJ10 HTO HAX HOK HER HAV HV J9 hbk;have J11:=Ld (J10.out.set_ va);have p1:=Blk.frozen J10.out.pb 1;have p2:w10.cell? ⟨P,1,none⟩=some (.string ⟨#[]⟩):=Blk.cell J10.out.pb 1;go_upto_region 15 with fail;generalize w10.setCell ⟨P,1,none⟩ (.string (st va))=w11 at J11 ⊢;clear p1 p2 J10;have d0:w11.cell? ⟨P,0,none⟩=some (.string (st nm)):=Blk.cell J11.out.pb 0;have d1:w11.cell? ⟨P,1,none⟩=some (.string (st va)):=Blk.cell J11.out.pb 1;have ow:=Ld ((J11.out.below ((Below.refl _ w11).alloc (Lr) (.cells #[.string (st nm),.string (st va)] 56))).i.ow);have hbase:w.heap.size≤(w11.alloc (.cells #[.string (st nm),.string (st va)] 56)).heap.size:=Nat.le_trans J11.out.i.ap.size (by simp);obtain⟨i0,hi,hz0,hz1,hz2⟩:=info_parts Tryz.infoAttr;go_wp2_with (at_builtin;refine wpList_append_own _ rfl _ _ 50 rfl w.heap.size 56 i0 (.agg #[.string ⟨#[]⟩,.string ⟨#[]⟩]) 2 32 underlying50 hi hz0 hz1 hz2 rfl (by decide) _ _ _ rfl ow.out ⟨w11.heap.size,0,none⟩ 1 1 [.string (st nm),.string (st va)] rfl rfl (z0h _ _ _) (by intro u hu;simp at hu;rcases hu with rfl | rfl <;> rfl) (by unfold maxLen;omega) (by omega) hbase ?_);intro v' w12 hown' hgrow _;have I12:=Ld (J11.out.pushed hown' hgrow);clear hown' hgrow J11 ow d0 d1 hbase;have hat:=j6g (out++[⟨nm,va⟩]) v' (fun b=>w.heap.size≤b∧b < w12.heap.size) w12 (AtsV.of_own I12.out.ow (fun g hg'=>I12.out.ow.lt g hg')) (fun b hb=>hb.2) (by omega);generalize Mk.z14 Fd.z0b [] (out++[⟨nm,va⟩])=ck at hat HOK2;have HAT:=Ld hat
      clear hat
      go_wp2_with fail;refine HAT.out.mono ?_;rintro e w13 ⟨rfl,hb13⟩;have I13:=Ld (I12.out.below hb13);clear hb13 HAT I12
      by_cases hck:ck=0
      ·subst hck
       rw[if_neg (fun q=>q rfl)] at HOK2;obtain⟨g',rfl⟩:∃ g',gk=g' + 1:=⟨gk - 1,by omega⟩;go_wp2_with fail
       go_roundg g'
       case measure=>omega
       case rel=>exact⟨j7,_,by omega,hjs7,by omega,hbk2,HOK2,I13⟩
      ·have hcb:(ck == 0)=false:=beq_eq_false_iff_ne.2 hck
       rw[if_pos hck] at HOK2;clear hck;go_wp2_with fail;refine(z3x 6 _).mono ?_;rintro e w14 ⟨rfl,hw14⟩;subst w14;go_wp2_with fail;exact⟨rfl,.inl ⟨6,HOK2.out,rfl,I13.out.ap⟩⟩
end
end Go.Proofs.YtjonkbdldebkiaaGreatDoor
namespace Fd
open Mk
theorem j6m (c:UInt8) (t:Bs):Mg.pre [60] (c :: t)=(c == 60):=by
 unfold Mg.pre;rw[Bool.eq_iff_iff];simp
theorem j4e:∀ l:Bs,(z0c [60] l=none∧Go.Lib.indexByte l 60 = -1)∨∃ i:Nat,Go.Lib.indexByte l 60=i∧i < l.length∧z0c [60] l=some (l.take i,l.drop (i + 1))
 | []=>.inl ⟨rfl,rfl⟩
 | c :: t=>by
  unfold z0c Go.Lib.indexByte;rw[j6m]
  cases h:c == 60 with
  | true=>exact .inr ⟨0,by first | rfl | simp,by simp,by simp⟩
  | false =>
   have hge:=Go.Lib.indexByte_ge t 60
   rcases j4e t with ⟨h1,h2⟩ | ⟨i,h1,h2,h3⟩
   ·refine .inl ⟨by simp[h1],by simp[h2]⟩
   ·refine .inr ⟨i + 1,?_,by simp;omega,by simp[h3]⟩
    rw[h1];simp <;> omega
end Fd
namespace Go.Proofs.YtjonkbdldebkiaaGreatDoor
open Go.Proofs.Tryz Go.RowKit
theorem j7x (f:Mk.Fo) (t:List UInt8) (v:Value) (B:Nat) (K:Nat→Prop) (xs:List Value) (w:World) (hF:OwnF w B K v f xs) (hB:B≤w.heap.size) (hl:f.bulk + t.length≤1099511627776) :
  Calls prog 255 #[v,.string (st t)] w fun e w'=>∃ v' xs',e=.returned v'∧OwnF w' B K v' (Fd.z9i f t) xs'∧Ap (fun b=>v.ownBlock=some b) w w'∧q17 w v v':=by
 have hst:∀ l:List UInt8,(st l).toList=l:=fun l=>Lib.toList_data _
 have HTX:Hid (Fd.z9i f t=if t=[] then f else Mk.Fo.snoc [] [] t .nil f):=rfl;obtain⟨ao0,cap0,hu0⟩:=Z9 hF.own;subst hu0;have HF:=Ld hF;generalize Fd.z9i f t=out at HTX ⊢;clear hF
 rcases z3c t with ⟨e1,e2⟩ | ⟨e1,e2⟩
 ·rw[if_pos e1] at HTX
  clear e1;go_enter func255,ntmps255;go_wp2_with fail;go_ret;exact⟨_,_,rfl,by rw[HTX.out];exact HF.out,Ap.refl _ _,.inl rfl⟩
 rw[if_neg e1] at HTX;clear e1;have hfl:=Mk.Fo.z1r f;have htl:=Mk.Fo.z7a f;go_enter func255,ntmps255;go_upto_region 4 with fail
 go_cut [21] (fun b wx=>b=.bool (f.merges [])∧w=wx)
 case first =>
  as_aux_lemma =>
  by_cases hf0:f=.nil
  ·have HM:Hid (f.merges []=false):=by show _=_;rw[hf0,Mk.Fo.z4u]
   have hl0:¬ 0 < f.len:=by rw[hf0];simp[Mk.Fo.len]
   clear hf0;go_wp2_with fail;go_meet
   case rel=>exact⟨by rw[HM.out],rfl⟩
  ·obtain⟨g0,capz,hz,d1,d2,df⟩:=HF.out.last hf0
   injection hz with z1 z2 z3;subst z1;subst z3;have hl0:0 < f.len:=z3i f hf0;obtain⟨j,hj⟩:∃ j,j=f.len - 1:=⟨_,rfl⟩;rw[← hj] at d1;have hj1:(f.len:Int) - 1=j:=by omega
   have hj2:(j:Int) < f.len:=by omega
   have hj3:(0:Int)≤j:=by omega
   have hbl:f.z6a=[]∨f.z6a.isEmpty=false:=by
    cases f.z6a with
    | nil=>exact .inl rfl
    | cons _ _=>exact .inr rfl
   have HF0:=Ld hf0;clear hj d2 df hf0
   rcases hbl with h1 | h1
   ·have HM:Hid (f.merges []=true):=(Mk.Fo.V6 _ _).2 ⟨rfl,HF0.out,h1⟩
    have he1:f.z6a.isEmpty=true:=by rw[h1];rfl
    clear h1;go_wp2_with fail;go_meet
    case rel=>exact⟨by rw[HM.out],rfl⟩
   ·have HM:Hid (f.merges []=false):=by
     show _=_;rw[Bool.eq_false_iff];intro q;rw[((Mk.Fo.V6 _ _).1 q).2.2] at h1;cases h1
    go_wp2_with fail;go_meet
    case rel=>exact⟨by rw[HM.out],rfl⟩
 case rest =>
  as_aux_lemma =>
  obtain⟨rfl,hw⟩:=hcut;subst hw;obtain⟨mb,hmb⟩:∃ mb,f.merges []=mb:=⟨_,rfl⟩;rw[hmb];have HMB:=Ld hmb;clear hmb
  cases mb with
  | true =>
   have hq:=(Mk.Fo.V6 _ _).1 HMB.out;obtain⟨g0,capz,hz,d1,d2,df⟩:=HF.out.last hq.2.1;injection hz with z1 z2 z3;subst z1;subst z3;have hl0:0 < f.len:=z3i f hq.2.1;have OFM:=Ld (HF.out.merged [] t .nil HMB.out (g:=g0) rfl);obtain⟨j,hj⟩:∃ j,j=f.len - 1:=⟨_,rfl⟩;rw[← hj] at d1 d2 OFM;have hj1:(f.len:Int) - 1=j:=by omega
   have hj2:(j:Int) < f.len:=by omega
   have hj3:(0:Int)≤j:=by omega
   have df2:=df (j * 4 + 2);have q1:¬ 9223372036854775807 < (st f.lastT).size + (st t).size:=by rw[Z4,Z4];omega
   clear hj hq df;go_wp2_with fail;rw[show st f.lastT++st t=st (f.lastT++t) from z3m (st f.lastT) (st t)];have OFM2:Hid (OwnF (w.setCell ⟨g0,j * 4 + 2,none⟩ (.string (st (f.lastT++t)))) B K (.slice (some ⟨g0,0,none⟩) f.len cap0) (Mk.Fo.snoc [] [] t .nil f) (xs.set (4 * j + 2) (.string (st (f.lastT++t))))):=by
    have:=OFM.out;rw[Nat.mul_comm 4 j] at this;rw[Nat.mul_comm 4 j];exact this
   go_ret;exact⟨_,rfl,⟨_,by rw[HTX.out];exact OFM2.out⟩,(Ap.refl (fun b=>(Value.slice (some ⟨g0,0,none⟩) f.len cap0).ownBlock=some b) w).setCell (p:=⟨g0,j * 4 + 2,none⟩) rfl _,.inl rfl⟩
  | false =>
   obtain⟨i0,hi,hz0,hz1,hz2⟩:=info_parts Tryz.infoNode;have ow10:=z0f HF.out.own ((Ap.refl (fun _=>False) w).alloc (.cells #[.string ⟨#[]⟩,.slice none 0 0,.string (st t),.slice none 0 0] 53)) (fun _ _ q=>q);have hal2:=(Below.refl w.heap.size w).alloc (Lr) (.cells #[.string ⟨#[]⟩,.slice none 0 0,.string (st t),.slice none 0 0] 53);have hlf:f.len≤1099511627776:=by omega
   go_wp2_with (at_builtin;refine J3 rfl _ _ 51 rfl B 53 i0 (.agg #[.string ⟨#[]⟩,.slice none 0 0,.string ⟨#[]⟩,.slice none 0 0]) 4 80 underlying51 hi hz0 hz1 hz2 rfl (by decide) _ _ _ rfl ow10 ⟨w.heap.size,0,none⟩ 1 1 [.string ⟨#[]⟩,.slice none 0 0,.string (st t),.slice none 0 0] rfl rfl (z0h _ _ _) (by intro u hu;simp at hu;rcases hu with rfl | rfl | rfl | rfl <;> rfl) (by decide) (by unfold maxLen;omega) (by omega) (by simp;omega) ?_);intro v' w2 hown' hgrow hfresh;have hfr2:v'.ownBlock=(Value.slice ao0 f.len cap0).ownBlock∨v'.ownBlock=some (w.alloc (.cells #[.string ⟨#[]⟩,.slice none 0 0,.string (st t),.slice none 0 0] 53)).heap.size:=hfresh.imp id (fun e=>by rw[e];simp);have OFP:=Ld (HF.out.pushed (n:=[]) (a:=[]) (t:=t) (k:=.nil) (ao:=none) (cap:=0) (AtsV.nil w K) (.inl rfl:z19 w K none []) (Nat.zero_le _) rfl HMB.out hal2 hown' hgrow hfr2);have APP:Hid (Ap (fun b=>(Value.slice ao0 f.len cap0).ownBlock=some b) w w2) :=
    ((Ap.refl _ w).alloc (.cells #[.string ⟨#[]⟩,.slice none 0 0,.string (st t),.slice none 0 0] 53)).grown hgrow (fun b hb e=>e)
   have FRP:Hid (q17 w (Value.slice ao0 f.len cap0) v'):=by
    rcases hfr2 with e | e
    ·exact .inl e
    ·exact .inr ⟨_,e,by simp⟩
   clear hown' hgrow hfresh hfr2 ow10 hal2;go_wp2_with fail;go_ret;exact⟨_,_,rfl,by rw[HTX.out];exact OFP.out,APP.out,FRP.out⟩
section
variable {w w' : World} {R : Nat} {s : ByteArray} {k : Nat}
theorem j4d (s:ByteArray) (w:World):Calls prog 230 #[.string s,.int .u8 60] w fun e w'=>e=.returned (.int .i64 (Lib.indexByte s.data.toList 60))∧w'=w :=
 (Tryz.strings_IndexByte s 60 w).mono fun e w' ⟨he,hw⟩=>⟨he,hw⟩
theorem xr_plain (hg:Gl w) (hR:4 < R) (h:Xr w R s k) (hk:k≤s.size) (hs:s.size≤100000) :
  Calls prog 256 #[.pointer (some ⟨R,0,none⟩)] w fun e w' =>
   (Fd.z0c [60] (s.data.toList.drop k)=none∧e=GaveX 1∧Ap (fun b=>b=R) w w')∨∃ a y,Fd.z0c [60] (s.data.toList.drop k)=some (a,y)∧e=.returned (.string (st a))∧k + a.length≤s.size∧Xr w' R s (k + a.length)∧Moved R w w':=by
 have c0:=h.c0;have c1:=h.c1;have f1:=h.fz 1;have HX:=Ld h;have HG:=Ld hg;have hk1:(k:Int)≤s.size:=by omega
 have hd:(s.extract k s.size).data.toList=s.data.toList.drop k:=by rw[Y1,z1o,List.take_of_length_le (by rw[List.length_drop,bs_len];omega)]
 have hc:=fun W=>j4d (s.extract k s.size) W
 rw[hd] at hc;have hz:(s.data.toList.drop k).length=s.size - k:=by rw[List.length_drop,bs_len]
 have hx0:s.extract k s.size=st (s.data.toList.drop k):=by rw[Y1,List.take_of_length_le (by rw[hz];omega)]
 have HTO:=Ld (fun (W:World) (hW:Gl W)=>q96 (s.data.toList.drop k) W (by rw[hz];omega) hW);have H60:=Ld (Fd.j4e (s.data.toList.drop k));have HZ:=Ld hz;have HX0:=Ld hx0;generalize Lib.indexByte (s.data.toList.drop k) 60=ix at hc H60;have HC:=Ld hc;clear hc hd h hg hz hx0
 rcases H60.out with ⟨h1,h2⟩ | ⟨i,h1,h2,h3⟩
 ·subst h2
  have HE:=Ld h1;clear h1 H60;go_enter func256,ntmps256;go_wp2_with fail
  go_quiet ((go_at_call 230;exact Calls.quiet_of_same (HC.out _)))
  go_wp2_with fail;have X1:=Ld (HX.out.drewN nq);have AP1:=Ld ((Ap.refl (fun b=>b=R) w).drewN nq);have GL1:=Ld (HG.out.drewN nq);generalize w.drewN nq=w1 at X1 AP1 GL1 ⊢;have HRW:=Ld (Blk.lt X1.out);have HCC:Hid ((w1.drew.cell? ⟨R,0,none⟩=some (.string s)∧w1.drew.cell? ⟨R,1,none⟩=some (.int .i64 k))∧∀ W,Below w1.heap.size w1.drew W→(W.cell? ⟨R,0,none⟩=some (.string s)∧W.cell? ⟨R,1,none⟩=some (.int .i64 k))) :=
   ⟨⟨Xr.c0 (Blk.drew X1.out),Xr.c1 (Blk.drew X1.out)⟩,fun W hW=>⟨Xr.c0 (Blk.below (Blk.drew X1.out) hW HRW.out),Xr.c1 (Blk.below (Blk.drew X1.out) hW HRW.out)⟩⟩
  have hto:=HTO.out w1.drew GL1.out.drew;rw[← HX0.out] at hto;clear HTO HC GL1 c0 c1 f1;obtain⟨bt,hbt⟩:∃ bt,(Mk.take (s.data.toList.drop k)).2=bt:=⟨_,rfl⟩;rw[hbt] at hto;clear hbt
  cases bt with
  | false =>
   have HT3:Hid (Calls prog 253 #[.string (s.extract k s.size)] w1.drew fun e w'=>e=GaveX 1∧Below w1.heap.size w1.drew w'):=hto.mono (by
    rintro e w' ⟨h1,⟨h2,_⟩ | ⟨_,h3⟩⟩
    ·cases h2
    ·exact⟨h3,h1⟩)
   clear hto;go_upto_region 3 with fail;refine wp_region_held_drew (S:=fun w'=>w'.cell? ⟨R,0,none⟩=some (.string s)∧w'.cell? ⟨R,1,none⟩=some (.int .i64 k)) (by kernel_rfl) HCC.out.1 (fun hHeld=>?_);refine wpAnyH_take (i:=0) rfl (by kernel_rfl) (by kernel_rfl) (by kernel_rfl) (fun _ _ _ h=>h) (Or.inl ⟨by rfl,by (intro w hSw;(try dsimp only at hSw);go_simp;try with_reducible rfl)⟩) (by assumption) ?_
   (try simp only [Act.put,List.setIfInBounds_toArray,List.set_cons_zero,List.set_cons_succ])
   refine wpAnyH_take (i:=1) rfl (by kernel_rfl) (by kernel_rfl) (by kernel_rfl) (fun _ _ _ h=>h) (Or.inl ⟨by rfl,by (intro w hSw;(try dsimp only at hSw);go_simp;try with_reducible rfl)⟩) (by assumption) ?_
   (try simp only [Act.put,List.setIfInBounds_toArray,List.set_cons_zero,List.set_cons_succ])
   refine wpAnyH_take (i:=2) rfl (by kernel_rfl) (by kernel_rfl) (by kernel_rfl) (fun _ _ _ h=>h) (Or.inl ⟨by rfl,by (intro w hSw;(try dsimp only at hSw);go_simp;try with_reducible rfl)⟩) (by assumption) ?_
   (try simp only [Act.put,List.setIfInBounds_toArray,List.set_cons_zero,List.set_cons_succ])
   refine wpAnyH_take (i:=3) rfl (by kernel_rfl) (by kernel_rfl) (by kernel_rfl) (fun _ _ _ h=>h) (Or.inl ⟨by rfl,by (intro w hSw;(try dsimp only at hSw);go_simp;try with_reducible rfl)⟩) (by assumption) ?_
   (try simp only [Act.put,List.setIfInBounds_toArray,List.set_cons_zero,List.set_cons_succ])
   refine wpAnyH_take (i:=4) rfl (by kernel_rfl) (by kernel_rfl) (by kernel_rfl) (fun _ _ _ h=>h) (Or.inl ⟨by rfl,by (intro w hSw;(try dsimp only at hSw);go_simp;try with_reducible rfl)⟩) (by assumption) ?_
   (try simp only [Act.put,List.setIfInBounds_toArray,List.set_cons_zero,List.set_cons_succ])
   refine wpAnyH_take (i:=5) rfl (by kernel_rfl) (by kernel_rfl) (by kernel_rfl) (fun _ _ _ h=>h) (Or.inl ⟨by rfl,by (intro w hSw;(try dsimp only at hSw);go_simp;try with_reducible rfl)⟩) (by assumption) ?_
   (try simp only [Act.put,List.setIfInBounds_toArray,List.set_cons_zero,List.set_cons_succ])
   refine wpAnyH_take (i:=6) rfl (by kernel_rfl) (by kernel_rfl) (by kernel_rfl) (fun _ _ _ h=>h) (Or.inl ⟨by rfl,by (intro w hSw;(try dsimp only at hSw);go_simp;try with_reducible rfl)⟩) (by assumption) ?_
   (try simp only [Act.put,List.setIfInBounds_toArray,List.set_cons_zero,List.set_cons_succ])
   refine wpAnyH_take (i:=7) rfl (by kernel_rfl) (by kernel_rfl) (by kernel_rfl) (fun _ _ _ h=>h) (Or.inl ⟨by rfl,by (intro w hSw;(try dsimp only at hSw);go_simp;try with_reducible rfl)⟩) (by assumption) ?_
   (try simp only [Act.put,List.setIfInBounds_toArray,List.set_cons_zero,List.set_cons_succ])
   refine wpAnyH_take (i:=8) rfl (by kernel_rfl) (by kernel_rfl) (by kernel_rfl) (fun _ _ _ h=>h) (Or.inl ⟨by rfl,by (intro w hSw;(try dsimp only at hSw);go_simp;try with_reducible rfl)⟩) (by assumption) ?_
   (try simp only [Act.put,List.setIfInBounds_toArray,List.set_cons_zero,List.set_cons_succ])
   refine wpAnyH_ready (rs:=[9]) (by kernel_rfl) (by simp) ?_;refine AllReadyH.cons rfl (fun K hK=>?_) AllReadyH.nil
   go_simp
   refine HT3.out.mono ?_;rintro e w3 ⟨rfl,hb3⟩;exact⟨rfl,.inl ⟨HE.out,rfl,AP1.out.drew.trans (Ap.of_below hb3)⟩⟩
  | true =>
   have HT3:Hid (Calls prog 253 #[.string (s.extract k s.size)] w1.drew fun e w'=>(∃ v,e=.returned v)∧Below w1.heap.size w1.drew w'):=hto.mono (by
    rintro e w' ⟨h1,⟨_,h2⟩ | ⟨h3,_⟩⟩
    ·exact⟨⟨_,h2⟩,h1⟩
    ·cases h3)
   clear hto
   go_region_held3 (fun w'=>w'.cell? ⟨R,0,none⟩=some (.string s)∧w'.cell? ⟨R,1,none⟩=some (.int .i64 k)) (first
    | exact HCC.out.1
    | exact HCC.out.2 _ hb3) (first | (go_at_call 253;refine HT3.out.mono ?_;rintro e w3 ⟨⟨v3,rfl⟩,hb3⟩))
   all_goals
    go_wp2_with fail;refine(z3x 1 _).mono ?_;rintro e w4 ⟨rfl,hw4⟩;subst w4;go_wp2_with fail;exact⟨rfl,.inl ⟨HE.out,rfl,AP1.out.drew.trans (Ap.of_below hb3)⟩⟩
 ·subst h1
  rw[HZ.out] at h2;have HE:=Ld h3;have hi1:(k:Int) + i≤s.size:=by omega
  have hi2:(i:Int)≤s.size:=by omega
  have hwi:IntKind.i64.wrap ((k:Int) + i)=(k:Int) + i:=by rw[IntKind.wrap_i64];omega
  have hx:s.extract k (k + i)=st ((s.data.toList.drop k).take i):=by rw[Y1,Nat.add_sub_cancel_left]
  have HXX:=Ld hx;have HLE:Hid (((s.data.toList.drop k).take i).length=i):=by show _=_;rw[List.length_take,HZ.out];omega
  clear h3 H60 hx;go_enter func256,ntmps256;go_wp2_with fail
  go_quiet ((go_at_call 230;exact Calls.quiet_of_same (HC.out _)))
  go_wp2_with fail
  go_quiet (fail)
  go_wp2_with fail;rw[HXX.out];go_ret;refine .inr ⟨_,_,HE.out,by rfl,by rw[HLE.out];omega,?_,((Moved.refl R w).drewN _).setCell 1 _⟩;rw[HLE.out,show ((k:Int) + (i:Int))=((k + i:Nat):Int) by omega];exact(HX.out.drewN _).at_ _
end
end Go.Proofs.YtjonkbdldebkiaaGreatDoor
namespace Fd
open Mk
theorem q2y {deep:Int} {s r:Bs} {x:El} (h:z5l deep s=.ok x r):1 + x.name.length + Fo.atB x.ats + Fo.bulk x.kids + 5 * r.length≤5 * s.length:=q2w _ _ _ _ _ h
theorem j2d {n:Bs} (h:z0b n=true):n ≠ []:=by
 unfold z0b at h;rw[Bool.and_eq_true,Bool.and_eq_true,decide_eq_true_iff] at h;exact h.1.2
theorem j7q {s:Bs} {e:Int} (h:z06 s=.er e):e=1:=by
 unfold z06 at h
 split at h
 ·cases h
 ·injection h with h;exact h.symm
theorem elem_n {deep:Int} {s:Bs} {e:Int} (h:z0k [60] s=.er e):z5l deep s=.er e:=by rw[q08,h]
theorem elem_t {deep:Int} {s r:Bs} {u:Unit} {e:Int} (h:z0k [60] s=.ok u r) (h2:z06 r=.er e):z5l deep s=.er e:=by rw[q08,h];simp only;rw[h2]
theorem elem_d {deep:Int} {s r nm z:Bs} {u:Unit} (h:z0k [60] s=.ok u r) (h2:z06 r=.ok nm z) (h3:8 < deep):z5l deep s=.er 2:=by rw[q08,h];simp only;rw[h2];simp only;rw[if_pos h3]
def q4g (deep:Int) (nm z:Bs):Rs El :=
 match z2f z with
 | .er e=>.er e
 | .ok l z =>
  if Mg.pre [47,62] z then .ok ⟨nm,l,.nil⟩ (z.drop 2)
  else match z0k [62] z with
   | .er e=>.er e
   | .ok _ y =>
    match z0q deep y .nil with
    | .er e=>.er e
    | .ok k x =>
     match z06 x with
     | .er e=>.er e
     | .ok nm2 v=>if nm2 ≠ nm then .er 4 else
      match z0k [62] (V8 v) with
      | .er e=>.er e
      | .ok _ o=>.ok ⟨nm,l,k⟩ o
theorem elem_y {deep:Int} {s r nm z:Bs} {u:Unit} (h:z0k [60] s=.ok u r) (h2:z06 r=.ok nm z) (h3:¬ 8 < deep):z5l deep s=q4g deep nm z:=by
 rw[q08,h];simp only;rw[h2];simp only;rw[if_neg h3];rfl
theorem elemY_a {deep:Int} {nm z:Bs} {e:Int} (h:z2f z=.er e):q4g deep nm z=.er e:=by rw[q4g,h]
theorem elemY_c {deep:Int} {nm z y:Bs} {l:List At} (h:z2f z=.ok l y) (h2:Mg.pre [47,62] y=true):q4g deep nm z=.ok ⟨nm,l,.nil⟩ (y.drop 2):=by rw[q4g,h];simp only;rw[if_pos h2]
theorem elemY_n {deep:Int} {nm z y:Bs} {l:List At} {e:Int} (h:z2f z=.ok l y) (h2:Mg.pre [47,62] y=false) (h3:z0k [62] y=.er e):q4g deep nm z=.er e:=by
 rw[q4g,h];simp only;rw[if_neg (by rw[h2];simp),h3]
def q20 (deep:Int) (nm:Bs) (l:List At) (y:Bs):Rs El :=
 match z0q deep y .nil with
 | .er e=>.er e
 | .ok k x =>
  match z06 x with
  | .er e=>.er e
  | .ok nm2 v=>if nm2 ≠ nm then .er 4 else
   match z0k [62] (V8 v) with
   | .er e=>.er e
   | .ok _ o=>.ok ⟨nm,l,k⟩ o
theorem elemY_z {deep:Int} {nm z y x:Bs} {l:List At} {u:Unit} (h:z2f z=.ok l y) (h2:Mg.pre [47,62] y=false) (h3:z0k [62] y=.ok u x):q4g deep nm z=q20 deep nm l x:=by
 rw[q4g,h];simp only;rw[if_neg (by rw[h2];simp),h3];rfl
theorem elemZ_k {deep:Int} {nm y:Bs} {l:List At} {e:Int} (h:z0q deep y .nil=.er e):q20 deep nm l y=.er e:=by rw[q20,h]
theorem elemZ_t {deep:Int} {nm y x:Bs} {l:List At} {k:Fo} {e:Int} (h:z0q deep y .nil=.ok k x) (h2:z06 x=.er e):q20 deep nm l y=.er e:=by rw[q20,h];simp only;rw[h2]
theorem elemZ_s {deep:Int} {nm y x nm2 v:Bs} {l:List At} {k:Fo} (h:z0q deep y .nil=.ok k x) (h2:z06 x=.ok nm2 v) (h3:nm2 ≠ nm):q20 deep nm l y=.er 4:=by rw[q20,h];simp only;rw[h2];simp only;rw[if_pos h3]
theorem elemZ_e {deep:Int} {nm y x v:Bs} {l:List At} {k:Fo} (h:z0q deep y .nil=.ok k x) (h2:z06 x=.ok nm v):q20 deep nm l y=match z0k [62] (V8 v) with | .er e=>.er e | .ok _ o=>.ok ⟨nm,l,k⟩ o:=by
 rw[q20,h];simp only;rw[h2];simp only;rw[if_neg (fun q=>q rfl)]
end Fd
namespace Go.Proofs.YtjonkbdldebkiaaGreatDoor
open Go.RowKit
def Nw (w w':World) (b:Nat):Prop:=w.heap.size≤b∧b < w'.heap.size
def j4b:Array Value:=#[.string ⟨#[]⟩,.slice none 0 0,.string ⟨#[]⟩,.slice none 0 0]
structure ElI (w wx:World) (R:Nat) (s:ByteArray) (j C N:Nat) (nm:List UInt8) (va:Value) (l:List Mk.At) (vk:Value) (f:Mk.Fo) (K:Nat→Prop):Prop where
 rl:R < w.heap.size
 x:Xr wx R s j
 ap:Ap (fun b=>b=R) w wx
 cl:w.heap.size≤C
 nl:w.heap.size≤N
 cn:C ≠ N
 cb:Blk wx C 53 j4b
 nb:Blk wx N 53 #[.string (st nm),va,.string ⟨#[]⟩,vk]
 kk:∀ b,K b→w.heap.size≤b∧b < wx.heap.size∧b ≠ C∧b ≠ N
 ats:AtsV wx K va l
 fo:FoV wx K vk f
section
variable {w wx wy : World} {R : Nat} {s : ByteArray} {j j' C N : Nat} {nm : List UInt8} {va vk : Value} {l : List Mk.At} {f : Mk.Fo} {K : Nat→Prop}
theorem ElI.ap2 (h:ElI w wx R s j C N nm va l vk f K) (ha:Ap (fun b=>b=R) wx wy) (hx:Xr wy R s j'):ElI w wy R s j' C N nm va l vk f K:=by
 have hr:=h.rl;have hc:=h.cl;have hn:=h.nl;have kp:∀ b,K b→K b∧wy.heap[b]? = wx.heap[b]?:=fun b hb=>⟨hb,ha.block b (h.kk b hb).2.1 (fun e=>by have:=(h.kk b hb).1;have e:b=R:=e;omega)⟩
 exact⟨h.rl,hx,h.ap.trans ha,h.cl,h.nl,h.cn,h.cb.ap ha (fun e=>by have e:C=R:=e;omega),h.nb.ap ha (fun e=>by have e:N=R:=e;omega),fun b hb=>⟨(h.kk b hb).1,Nat.lt_of_lt_of_le (h.kk b hb).2.1 ha.size,(h.kk b hb).2.2⟩,h.ats.frame kp,h.fo.frame kp⟩
theorem ElI.moved (h:ElI w wx R s j C N nm va l vk f K) (hm:Moved R wx wy) (hx:Xr wy R s j'):ElI w wy R s j' C N nm va l vk f K:=h.ap2 hm.ap hx
theorem ElI.drewN (h:ElI w wx R s j C N nm va l vk f K) (n:Nat):ElI w (wx.drewN n) R s j C N nm va l vk f K:=h.moved ((Moved.refl R wx).drewN n) (h.x.drewN n)
theorem ElI.gl (h:ElI w wx R s j C N nm va l vk f K) (hg:Gl w) (hR:4 < R):Gl wx:=hg.ap h.ap (by intro e;have e:0=R:=e;omega) (by intro e;have e:4=R:=e;omega)
theorem q0b {K:Nat→Prop} {w:World} {g i:Nat} {v:Value} (h:∀ b,K b→b ≠ g):∀ b,K b→K b∧(w.setCell ⟨g,i,none⟩ v).heap[b]? = w.heap[b]?:=fun b hb=>⟨hb,Below.heap_setCell w ⟨g,i,none⟩ v b (h b hb)⟩
theorem ElI.begin_ (h0:Xr wx R s j) (hr:R < w.heap.size) (hap:Ap (fun b=>b=R) w wx) (hcl:w.heap.size≤C) (hcb:Blk wx C 53 j4b) (nm:List UInt8):ElI w (wx.alloc (.cells #[.string (st nm),.slice none 0 0,.string ⟨#[]⟩,.slice none 0 0] 53)) R s j C wx.heap.size nm (.slice none 0 0) [] (.slice none 0 0) .nil (fun _=>False) :=
 ⟨hr,Blk.alloc h0 _,hap.alloc _,hcl,hap.size,fun e=>by have:=hcb.lt;omega,hcb.alloc _,Blk.new wx _ _,fun _ q=>q.elim,AtsV.nil _ _,⟨none,0,[],rfl,.inl rfl,rfl,Nat.zero_le _⟩⟩
theorem ElI.setAts (h:ElI w wx R s j C N nm va l vk f K) {v:Value} {la:List Mk.At} (ha:AtI wx wy R s j' v la):ElI w (wy.setCell ⟨N,1,none⟩ v) R s j' C N nm v la vk f (fun b=>K b∨Nw wx wy b):=by
 have h1:=h.ap2 ha.ap ha.x;have hr:=h.rl;have hn:=h.nl;have hnl:=h.nb.lt;have hcl:=h.cb.lt;have hsz:=ha.ap.size;have kne:∀ b,(K b∨Nw wx wy b)→b ≠ N:=by
  rintro b (q | q)
  ·exact(h.kk b q).2.2.2
  ·intro e;subst e;have:=q.1;omega
 refine⟨hr,Blk.far h1.x (p:=⟨N,1,none⟩) (fun e=>by have e:R=N:=e;omega) _,h1.ap.setNew (p:=⟨N,1,none⟩) hn _,h.cl,hn,h.cn,Blk.far h1.cb (p:=⟨N,1,none⟩) h.cn _,Blk.set_ h1.nb 1 _,?_,?_,?_⟩
 ·rintro b (q | q)
  ·obtain⟨a1,a2,a3⟩:=h1.kk b q
   exact⟨a1,by simpa [World.setCell] using a2,a3⟩
  ·exact⟨Nat.le_trans h.ap.size q.1,by have:=q.2;simpa [World.setCell] using this,fun e=>by subst e;have:=q.1;omega,kne b (.inr q)⟩
 ·have:AtsV wy (fun b=>K b∨Nw wx wy b) v la:=AtsV.of_own ha.ow (fun g hg=>.inr ⟨(ha.ow.lt g hg).1,(ha.ow.lt g hg).2⟩)
  exact this.frame (q0b kne)
 ·have:FoV wy (fun b=>K b∨Nw wx wy b) vk f:=h1.fo.frame (fun b hb=>⟨.inl hb,rfl⟩)
  exact this.frame (q0b kne)
theorem ElI.setKids (h:ElI w wx R s j C N nm va l vk f K) {v:Value} {g:Mk.Fo} (hx:Xr wy R s j') (ha:Ap (fun b=>b=R) wx wy) (hf:FoV wy (Nw wx wy) v g):ElI w (wy.setCell ⟨N,3,none⟩ v) R s j' C N nm va l v g (fun b=>K b∨Nw wx wy b):=by
 have h1:=h.ap2 ha hx;have hr:=h.rl;have hn:=h.nl;have hnl:=h.nb.lt;have hcl:=h.cb.lt;have hsz:=ha.size;have kne:∀ b,(K b∨Nw wx wy b)→b ≠ N:=by
  rintro b (q | q)
  ·exact(h.kk b q).2.2.2
  ·intro e;subst e;have:=q.1;omega
 refine⟨hr,Blk.far h1.x (p:=⟨N,3,none⟩) (fun e=>by have e:R=N:=e;omega) _,h1.ap.setNew (p:=⟨N,3,none⟩) hn _,h.cl,hn,h.cn,Blk.far h1.cb (p:=⟨N,3,none⟩) h.cn _,Blk.set_ h1.nb 3 _,?_,?_,?_⟩
 ·rintro b (q | q)
  ·obtain⟨a1,a2,a3⟩:=h1.kk b q
   exact⟨a1,by simpa [World.setCell] using a2,a3⟩
  ·exact⟨Nat.le_trans h.ap.size q.1,by have:=q.2;simpa [World.setCell] using this,fun e=>by subst e;have:=q.1;omega,kne b (.inr q)⟩
 ·have:AtsV wy (fun b=>K b∨Nw wx wy b) va l:=h1.ats.frame (fun b hb=>⟨.inl hb,rfl⟩)
  exact this.frame (q0b kne)
 ·have:FoV wy (fun b=>K b∨Nw wx wy b) v g:=hf.frame (fun b hb=>⟨.inr hb,rfl⟩)
  exact this.frame (q0b kne)
def ansW (wx:World) (C:Nat) (a b c d:Value):World:=(((wx.setCell ⟨C,0,none⟩ a).setCell ⟨C,1,none⟩ b).setCell ⟨C,2,none⟩ c).setCell ⟨C,3,none⟩ d
theorem ElI.ans (h:ElI w wx R s j C N nm va l vk f K):Blk (ansW wx C (.string (st nm)) va (.string ⟨#[]⟩) vk) C 53 #[.string (st nm),va,.string ⟨#[]⟩,vk]∧Xr (ansW wx C (.string (st nm)) va (.string ⟨#[]⟩) vk) R s j∧Ap (fun b=>b=R) w (ansW wx C (.string (st nm)) va (.string ⟨#[]⟩) vk)∧AtsV (ansW wx C (.string (st nm)) va (.string ⟨#[]⟩) vk) (Nw w (ansW wx C (.string (st nm)) va (.string ⟨#[]⟩) vk)) va l∧FoV (ansW wx C (.string (st nm)) va (.string ⟨#[]⟩) vk) (Nw w (ansW wx C (.string (st nm)) va (.string ⟨#[]⟩) vk)) vk f:=by
 have hr:=h.rl;have hc:=h.cl;have hRC:R ≠ C:=by omega
 have hsz:(ansW wx C (.string (st nm)) va (.string ⟨#[]⟩) vk).heap.size=wx.heap.size:=by simp[ansW,World.setCell]
 have kp:∀ b,K b→Nw w (ansW wx C (.string (st nm)) va (.string ⟨#[]⟩) vk) b∧(ansW wx C (.string (st nm)) va (.string ⟨#[]⟩) vk).heap[b]? = wx.heap[b]?:=by
  intro b hb;obtain⟨a1,a2,a3,_⟩:=h.kk b hb;refine⟨⟨a1,by rw[hsz];exact a2⟩,?_⟩;unfold ansW;rw[Below.heap_setCell _ ⟨C,3,none⟩ _ b a3,Below.heap_setCell _ ⟨C,2,none⟩ _ b a3,Below.heap_setCell _ ⟨C,1,none⟩ _ b a3,Below.heap_setCell _ ⟨C,0,none⟩ _ b a3]
 refine⟨Blk.set_ (Blk.set_ (Blk.set_ (Blk.set_ h.cb 0 _) 1 _) 2 _) 3 _,?_,?_,h.ats.frame kp,h.fo.frame kp⟩
 ·exact Blk.far (Blk.far (Blk.far (Blk.far h.x (p:=⟨C,0,none⟩) hRC _) (p:=⟨C,1,none⟩) hRC _) (p:=⟨C,2,none⟩) hRC _) (p:=⟨C,3,none⟩) hRC _
 ·exact(((h.ap.setNew (p:=⟨C,0,none⟩) hc _).setNew (p:=⟨C,1,none⟩) hc _).setNew (p:=⟨C,2,none⟩) hc _).setNew (p:=⟨C,3,none⟩) hc _
end
end Go.Proofs.YtjonkbdldebkiaaGreatDoor
namespace Go.Proofs.YtjonkbdldebkiaaGreatDoor
open Go.Proofs.Tryz Go.RowKit
def kidF (s:List UInt8):Mk.Fo:=if s=[] then .nil else .node [] [] s .nil .nil
theorem lw_kid (t s:List UInt8) (w:World) :
  Calls prog 26 #[.string (st t),.string (st s)] w fun e w'=>∃ vk,e=.returned (z05 t (.slice none 0 0) [] vk)∧FoV w' (Nw w w') vk (kidF s)∧Below w.heap.size w w':=by
 have hst:∀ l:List UInt8,(st l).toList=l:=fun l=>Lib.toList_data _
 have hal:=(Below.refl w.heap.size w).alloc (Lr) (.cells #[.string ⟨#[]⟩,.slice none 0 0,.string ⟨#[]⟩,.slice none 0 0] 53);have RB:=Ld (Blk.new w 53 #[.string ⟨#[]⟩,.slice none 0 0,.string ⟨#[]⟩,.slice none 0 0]);have AL:=Ld hal;clear hal
 rcases z3c s with ⟨e1,e2⟩ | ⟨e1,e2⟩
 ·have HE:Hid (kidF s=.nil):=by show _=_;unfold kidF;rw[if_pos e1]
  clear e1;go_enter func26,ntmps26;go_upto_region 1 with fail;obtain⟨R,hR⟩:∃ R,R=w.heap.size:=⟨_,rfl⟩;rw[← hR] at RB;rw[← hR];have hRw:w.heap.size≤R:=by omega
  generalize w.alloc (.cells #[.string ⟨#[]⟩,.slice none 0 0,.string ⟨#[]⟩,.slice none 0 0] 53)=w1 at AL RB ⊢;clear hR;have z0:w1.cell? ⟨R,0,none⟩=some (.string ⟨#[]⟩):=Blk.cell RB.out 0;have z1:w1.cell? ⟨R,1,none⟩=some (.slice none 0 0):=Blk.cell RB.out 1;have z2:w1.cell? ⟨R,2,none⟩=some (.string ⟨#[]⟩):=Blk.cell RB.out 2;have z3:w1.cell? ⟨R,3,none⟩=some (.slice none 0 0):=Blk.cell RB.out 3;have f0:=Blk.frozen RB.out 0;have f1:=Blk.frozen RB.out 1;have f2:=Blk.frozen RB.out 2;have f3:=Blk.frozen RB.out 3;go_wp2_with fail;refine bodyPost_ret (v:=z05 t (.slice none 0 0) [] (.slice none 0 0)) (by simp[results,results26,go_sem, *];rfl) rfl ?_;refine⟨_,rfl,?_,?_⟩
  ·rw[HE.out];exact FoV.nil0 _ _
  ·exact(((AL.out.setCell (p:=⟨R,0,none⟩) hRw _).setCell (p:=⟨R,1,none⟩) hRw _).setCell (p:=⟨R,2,none⟩) hRw _).setCell (p:=⟨R,3,none⟩) hRw _
 ·have HE:Hid (kidF s=.node [] [] s .nil .nil):=by show _=_;unfold kidF;rw[if_neg e1]
  clear e1;go_enter func26,ntmps26;go_upto_region 1 with fail;obtain⟨R,hR⟩:∃ R,R=w.heap.size:=⟨_,rfl⟩;rw[← hR] at RB;rw[← hR];have hRw:w.heap.size≤R:=by omega
  generalize w.alloc (.cells #[.string ⟨#[]⟩,.slice none 0 0,.string ⟨#[]⟩,.slice none 0 0] 53)=w1 at AL RB ⊢;clear hR;have RB2:=Blk.alloc RB.out (.cells #[.string ⟨#[]⟩,.slice none 0 0,.string (st s),.slice none 0 0] 53);have AL2:=Ld (AL.out.alloc AL.out.size (.cells #[.string ⟨#[]⟩,.slice none 0 0,.string (st s),.slice none 0 0] 53));have NB:Hid (Blk (w1.alloc (.cells #[.string ⟨#[]⟩,.slice none 0 0,.string (st s),.slice none 0 0] 53)) w1.heap.size 53 (j6j [] s (.slice none 0 0)++[]).toArray):=Blk.new w1 53 #[.string ⟨#[]⟩,.slice none 0 0,.string (st s),.slice none 0 0];have hR1:=RB.out.lt;have z0:(w1.alloc (.cells #[.string ⟨#[]⟩,.slice none 0 0,.string (st s),.slice none 0 0] 53)).cell? ⟨R,0,none⟩=some (.string ⟨#[]⟩):=Blk.cell RB2 0;have f0:(w1.alloc (.cells #[.string ⟨#[]⟩,.slice none 0 0,.string (st s),.slice none 0 0] 53)).frozen? ⟨R,0,none⟩=false:=Blk.frozen RB2 0;clear RB2;have b0:=Blk.alloc (Blk.set_ RB.out 0 (.string (st t))) (.cells #[.string ⟨#[]⟩,.slice none 0 0,.string (st s),.slice none 0 0] 53);have y01:((w1.setCell ⟨R,0,none⟩ (.string (st t))).alloc (.cells #[.string ⟨#[]⟩,.slice none 0 0,.string (st s),.slice none 0 0] 53)).cell? ⟨R,1,none⟩=some (.slice none 0 0):=Blk.cell b0 1;have g01:((w1.setCell ⟨R,0,none⟩ (.string (st t))).alloc (.cells #[.string ⟨#[]⟩,.slice none 0 0,.string (st s),.slice none 0 0] 53)).frozen? ⟨R,1,none⟩=false:=Blk.frozen b0 1;have y02:((w1.setCell ⟨R,0,none⟩ (.string (st t))).alloc (.cells #[.string ⟨#[]⟩,.slice none 0 0,.string (st s),.slice none 0 0] 53)).cell? ⟨R,2,none⟩=some (.string ⟨#[]⟩):=Blk.cell b0 2;have y03:((w1.setCell ⟨R,0,none⟩ (.string (st t))).alloc (.cells #[.string ⟨#[]⟩,.slice none 0 0,.string (st s),.slice none 0 0] 53)).cell? ⟨R,3,none⟩=some (.slice none 0 0):=Blk.cell b0 3;have b1:=Blk.alloc (Blk.set_ (Blk.set_ RB.out 0 (.string (st t))) 1 (.slice none 0 0)) (.cells #[.string ⟨#[]⟩,.slice none 0 0,.string (st s),.slice none 0 0] 53);have y12:(((w1.setCell ⟨R,0,none⟩ (.string (st t))).setCell ⟨R,1,none⟩ (.slice none 0 0)).alloc (.cells #[.string ⟨#[]⟩,.slice none 0 0,.string (st s),.slice none 0 0] 53)).cell? ⟨R,2,none⟩=some (.string ⟨#[]⟩):=Blk.cell b1 2;have g12:(((w1.setCell ⟨R,0,none⟩ (.string (st t))).setCell ⟨R,1,none⟩ (.slice none 0 0)).alloc (.cells #[.string ⟨#[]⟩,.slice none 0 0,.string (st s),.slice none 0 0] 53)).frozen? ⟨R,2,none⟩=false:=Blk.frozen b1 2;have y13:(((w1.setCell ⟨R,0,none⟩ (.string (st t))).setCell ⟨R,1,none⟩ (.slice none 0 0)).alloc (.cells #[.string ⟨#[]⟩,.slice none 0 0,.string (st s),.slice none 0 0] 53)).cell? ⟨R,3,none⟩=some (.slice none 0 0):=Blk.cell b1 3;have b2:=Blk.alloc (Blk.set_ (Blk.set_ (Blk.set_ RB.out 0 (.string (st t))) 1 (.slice none 0 0)) 2 (.string ⟨#[]⟩)) (.cells #[.string ⟨#[]⟩,.slice none 0 0,.string (st s),.slice none 0 0] 53);have y23:((((w1.setCell ⟨R,0,none⟩ (.string (st t))).setCell ⟨R,1,none⟩ (.slice none 0 0)).setCell ⟨R,2,none⟩ (.string ⟨#[]⟩)).alloc (.cells #[.string ⟨#[]⟩,.slice none 0 0,.string (st s),.slice none 0 0] 53)).cell? ⟨R,3,none⟩=some (.slice none 0 0):=Blk.cell b2 3;have g23:((((w1.setCell ⟨R,0,none⟩ (.string (st t))).setCell ⟨R,1,none⟩ (.slice none 0 0)).setCell ⟨R,2,none⟩ (.string ⟨#[]⟩)).alloc (.cells #[.string ⟨#[]⟩,.slice none 0 0,.string (st s),.slice none 0 0] 53)).frozen? ⟨R,3,none⟩=false:=Blk.frozen b2 3;have b3:=Blk.alloc (Blk.set_ (Blk.set_ (Blk.set_ (Blk.set_ RB.out 0 (.string (st t))) 1 (.slice none 0 0)) 2 (.string ⟨#[]⟩)) 3 (.slice (some ⟨w1.heap.size,0,none⟩) 1 1)) (.cells #[.string ⟨#[]⟩,.slice none 0 0,.string (st s),.slice none 0 0] 53);have y30:(((((w1.setCell ⟨R,0,none⟩ (.string (st t))).setCell ⟨R,1,none⟩ (.slice none 0 0)).setCell ⟨R,2,none⟩ (.string ⟨#[]⟩)).setCell ⟨R,3,none⟩ (.slice (some ⟨w1.heap.size,0,none⟩) 1 1)).alloc (.cells #[.string ⟨#[]⟩,.slice none 0 0,.string (st s),.slice none 0 0] 53)).cell? ⟨R,0,none⟩=some (.string (st t)):=Blk.cell b3 0;have y31:(((((w1.setCell ⟨R,0,none⟩ (.string (st t))).setCell ⟨R,1,none⟩ (.slice none 0 0)).setCell ⟨R,2,none⟩ (.string ⟨#[]⟩)).setCell ⟨R,3,none⟩ (.slice (some ⟨w1.heap.size,0,none⟩) 1 1)).alloc (.cells #[.string ⟨#[]⟩,.slice none 0 0,.string (st s),.slice none 0 0] 53)).cell? ⟨R,1,none⟩=some (.slice none 0 0):=Blk.cell b3 1;have y32:(((((w1.setCell ⟨R,0,none⟩ (.string (st t))).setCell ⟨R,1,none⟩ (.slice none 0 0)).setCell ⟨R,2,none⟩ (.string ⟨#[]⟩)).setCell ⟨R,3,none⟩ (.slice (some ⟨w1.heap.size,0,none⟩) 1 1)).alloc (.cells #[.string ⟨#[]⟩,.slice none 0 0,.string (st s),.slice none 0 0] 53)).cell? ⟨R,2,none⟩=some (.string ⟨#[]⟩):=Blk.cell b3 2;have y33:(((((w1.setCell ⟨R,0,none⟩ (.string (st t))).setCell ⟨R,1,none⟩ (.slice none 0 0)).setCell ⟨R,2,none⟩ (.string ⟨#[]⟩)).setCell ⟨R,3,none⟩ (.slice (some ⟨w1.heap.size,0,none⟩) 1 1)).alloc (.cells #[.string ⟨#[]⟩,.slice none 0 0,.string (st s),.slice none 0 0] 53)).cell? ⟨R,3,none⟩=some (.slice (some ⟨w1.heap.size,0,none⟩) 1 1):=Blk.cell b3 3;clear b0 b1 b2 b3;go_wp2_with fail;clear y01 y02 y03 g01 y12 y13 g12 y23 g23 z0 f0 e2 hst;have hbw:Below w.heap.size w (((((w1.setCell ⟨R,0,none⟩ (.string (st t))).setCell ⟨R,1,none⟩ (.slice none 0 0)).setCell ⟨R,2,none⟩ (.string ⟨#[]⟩)).setCell ⟨R,3,none⟩ (.slice (some ⟨w1.heap.size,0,none⟩) 1 1)).alloc (.cells #[.string ⟨#[]⟩,.slice none 0 0,.string (st s),.slice none 0 0] 53)):=((((AL.out.setCell (p:=⟨R,0,none⟩) hRw _).setCell (p:=⟨R,1,none⟩) hRw _).setCell (p:=⟨R,2,none⟩) hRw _).setCell (p:=⟨R,3,none⟩) hRw _).alloc (by have:=AL.out.size;simpa [World.setCell] using this) _;have hnb:Blk (((((w1.setCell ⟨R,0,none⟩ (.string (st t))).setCell ⟨R,1,none⟩ (.slice none 0 0)).setCell ⟨R,2,none⟩ (.string ⟨#[]⟩)).setCell ⟨R,3,none⟩ (.slice (some ⟨w1.heap.size,0,none⟩) 1 1)).alloc (.cells #[.string ⟨#[]⟩,.slice none 0 0,.string (st s),.slice none 0 0] 53)) w1.heap.size 53 (j6j [] s (.slice none 0 0)++[]).toArray:=by
   have:=Blk.new ((((w1.setCell ⟨R,0,none⟩ (.string (st t))).setCell ⟨R,1,none⟩ (.slice none 0 0)).setCell ⟨R,2,none⟩ (.string ⟨#[]⟩)).setCell ⟨R,3,none⟩ (.slice (some ⟨w1.heap.size,0,none⟩) 1 1)) 53 #[.string ⟨#[]⟩,.slice none 0 0,.string (st s),.slice none 0 0];have e:((((w1.setCell ⟨R,0,none⟩ (.string (st t))).setCell ⟨R,1,none⟩ (.slice none 0 0)).setCell ⟨R,2,none⟩ (.string ⟨#[]⟩)).setCell ⟨R,3,none⟩ (.slice (some ⟨w1.heap.size,0,none⟩) 1 1)).heap.size=w1.heap.size:=by simp[World.setCell]
   rw[e] at this;exact this
  have BW:=Ld hbw;have NW:=Ld hnb;have h1:=AL.out.size;clear hbw hnb NB AL2;generalize (((((w1.setCell ⟨R,0,none⟩ (.string (st t))).setCell ⟨R,1,none⟩ (.slice none 0 0)).setCell ⟨R,2,none⟩ (.string ⟨#[]⟩)).setCell ⟨R,3,none⟩ (.slice (some ⟨w1.heap.size,0,none⟩) 1 1)).alloc (.cells #[.string ⟨#[]⟩,.slice none 0 0,.string (st s),.slice none 0 0] 53))=W at BW NW y30 y31 y32 y33 ⊢;refine bodyPost_ret (v:=z05 t (.slice none 0 0) [] (.slice (some ⟨w1.heap.size,0,none⟩) 1 1)) (by simp[results,results26,go_sem, *];rfl) rfl ?_;refine⟨_,rfl,?_,BW.out⟩;rw[HE.out];exact FoV.of_blk (f:=.node [] [] s .nil .nil) NW.out ⟨h1,NW.out.lt⟩ (z07.one (k:=.nil) (FoV.nil0 _ _) (z07.nil0 _ _)) (by show 1≤_;decide)
end Go.Proofs.YtjonkbdldebkiaaGreatDoor
namespace Go
section
variable {P : Program} {ops : Array Oper} {Q : Exit→Act→World→Prop} {md : Region.Mode} {S : World→Prop}
def unl (l:List Bool):Nat:=(l.filter fun b=>!b).length
theorem j8g:∀ (l:List Bool) (i:Nat),l[i]? = some false→unl (l.set i true) + 1=unl l
 | [],i,h=>by simp at h
 | b :: l,0,h=>by
  have hb:b=false:=by simpa using h
  subst hb;simp[unl]
 | b :: l,i + 1,h=>by
  have ih:=j8g l i (by simpa using h);unfold unl at *
  cases b <;> simp_all
theorem unl_zero {l:List Bool} (h:unl l=0):∀ b ∈ l,b=true:=by
 intro b hb;unfold unl at h;have h1:l.filter (fun b=>!b)=[]:=List.length_eq_zero_iff.1 h;have h2:=List.filter_eq_nil_iff.1 h1 b hb
 cases b <;> simp_all
def waits (md:Region.Mode) (ops:Array Oper) (i:Nat):List Nat:=match ops[i]? with | none=>[] | some o=>(o.after.toList.filter fun e=>Region.binds md e).map (·.on)
def invB (md:Region.Mode) (ops:Array Oper) (rem:List Nat) (listed:Array Bool) (n:Nat):Bool :=
 ((List.range ops.size).all fun i=>(waits md ops i).all fun j=>decide (j < i)) && ((List.range ops.size).all fun i=>rem.contains i || listed.getD i false) && decide (listed.size=ops.size) && decide (unl listed.toList≤n)
def upd (L:Nat→Bool) (i:Nat):Nat→Bool:=fun j=>decide (j=i) || L j
theorem q9p (L:Nat→Bool) (i:Nat):upd L i i=true:=by simp[upd]
theorem z6c {L:Nat→Bool} {i j:Nat} (h:L j=true):upd L i j=true:=by simp[upd,h]
theorem upd_ne {L:Nat→Bool} {i j:Nat} (h:upd L i j=true) (hn:j ≠ i):L j=true:=by simpa [upd,hn] using h
theorem j2b (rem:List Nat) (J:(Nat→Bool)→Act→World→Prop) (hJS:∀ L a w,J L a w→S w)
  (hs:∀ i ∈ rem,∀ L a w,J L a w→L i=false→(∀ j ∈ waits md ops i,L j=true)→wpOp P ops Q i (fun a' w'=>J (upd L i) a' w') a w)
  (hd:∀ L a w,J L a w→(∀ i,i < ops.size→L i=true)→Q .normal a w) :
  ∀ (n:Nat) (listed:Array Bool) (a:Act) (w:World),invB md ops rem listed n=true→J (fun j=>listed.getD j false) a w→wpAnyH P md ops Q S n listed a w:=by
 have gD:∀ (listed:Array Bool) (k:Nat) (d b:Bool),d ≠ b→listed.getD k d=b→listed[k]? = some b:=by
  intro listed k d b hdb h;rw[Array.getD_eq_getD_getElem?] at h
  cases hk:listed[k]? with
  | none=>rw[hk] at h;exact absurd h hdb
  | some c=>rw[hk] at h;exact congrArg some h
 have parts:∀ (n:Nat) (listed:Array Bool),invB md ops rem listed n=true→(∀ i,i < ops.size→∀ j ∈ waits md ops i,j < i)∧(∀ i,i < ops.size→i ∈ rem∨listed.getD i false=true)∧listed.size=ops.size∧unl listed.toList≤n:=by
  intro n listed h;unfold invB at h;simp only [Bool.and_eq_true,List.all_eq_true,List.mem_range,decide_eq_true_eq,Bool.or_eq_true,List.contains_iff_mem] at h;exact⟨fun i hi j hj=>h.1.1.1 i hi j hj,fun i hi=>h.1.1.2 i hi,h.1.2,h.2⟩
 have all:∀ (n:Nat) (listed:Array Bool),invB md ops rem listed n=true→Region.ready md ops listed=[]→∀ i,i < ops.size→listed.getD i false=true:=by
  intro n listed h hr i;obtain⟨h1,h2,h3,_⟩:=parts n listed h
  induction i using Nat.strongRecOn with
  | ind i ih =>
   intro hi
   cases hb:listed.getD i false with
   | true=>rfl
   | false =>
    exfalso;have hlt:i < listed.size:=by omega
    have h0:listed.getD i true=false:=by
     rw[Array.getD_eq_getD_getElem?,Array.getElem?_eq_getElem hlt] at hb ⊢;exact hb
    have hmem:i ∈ Region.ready md ops listed:=mem_ready.2 ⟨h0,ops[i],Array.getElem?_eq_getElem hi,fun e he hbd=>by
     have hj:e.on ∈ waits md ops i:=by
      unfold waits;rw[Array.getElem?_eq_getElem hi];exact List.mem_map.2 ⟨e,List.mem_filter.2 ⟨by simpa using he,hbd⟩,rfl⟩
     have hl:=h1 i hi _ hj;exact ih _ hl (by omega)⟩
    rw[hr] at hmem
    cases hmem
 intro n
 induction n with
 | zero =>
  intro listed a w hB hJ;obtain⟨h1,h2,h3,h4⟩:=parts 0 listed hB;have hr:Region.ready md ops listed=[]:=by
   cases hc:Region.ready md ops listed with
   | nil=>rfl
   | cons i t =>
    have hm:i ∈ Region.ready md ops listed:=by rw[hc];exact List.mem_cons_self
    have h5:=gD listed i true false (by decide) (mem_ready.1 hm).1;rw[← Array.getElem?_toList] at h5;have h6:=unl_zero (Nat.le_zero.1 h4) false (List.mem_of_getElem? h5)
    cases h6
  exact⟨hr,hd _ a w hJ (all 0 listed hB hr)⟩
 | succ n ih =>
  intro listed a w hB hJ;refine⟨fun hr=>hd _ a w hJ (all (n + 1) listed hB hr),fun i hi=>?_⟩;obtain⟨h1,h2,h3,h4⟩:=parts (n + 1) listed hB;obtain⟨h0,o,ho,hall⟩:=mem_ready.1 hi;have hil:listed[i]? = some false:=gD listed i true false (by decide) h0;have hin:i < ops.size:=(Array.getElem?_eq_some_iff.1 ho).1;have hf:listed.getD i false=false:=by rw[Array.getD_eq_getD_getElem?,hil];rfl
  have hrem:i ∈ rem:=(h2 i hin).resolve_right (by rw[hf];decide);have hw:∀ j ∈ waits md ops i,(fun j=>listed.getD j false) j=true:=by
   intro j hj;unfold waits at hj;rw[ho] at hj;obtain⟨e,he,rfl⟩:=List.mem_map.1 hj;have:=List.mem_filter.1 he;exact hall e (by simpa using this.1) (by simpa using this.2)
  have hU:(fun j=>(listed.setIfInBounds i true).getD j false)=upd (fun j=>listed.getD j false) i:=by
   funext j
   unfold upd
   by_cases hji:j=i
   ·subst hji
    have hlt:j < listed.size:=by omega
    simp[hlt]
   ·rw[getD_set_ne false (fun q=>hji q.symm)]
    simp[hji]
  refine wpOp_mono (fun a' w' h=>⟨hJS _ _ _ h,ih _ a' w' ?_ ?_⟩) (hs i hrem _ a w hJ hf hw)
  ·unfold invB
   simp only [Bool.and_eq_true,List.all_eq_true,List.mem_range,decide_eq_true_eq,Bool.or_eq_true,List.contains_iff_mem];refine⟨⟨⟨h1,fun k hk=>(h2 k hk).imp id fun q=>getD_set_true q⟩,by simpa using h3⟩,?_⟩;have h5:listed.toList[i]? = some false:=by rw[Array.getElem?_toList];exact hil
   have h6:=j8g _ _ h5;simp only [Array.toList_setIfInBounds];omega
  ·rw[hU];exact h
def X4 (a:Act):List Tmp→List Value→Act
 | s :: ss,v :: vs=>X4 (a.put (some s) v) ss vs
 | _,_=>a
theorem put_own (a:Act) (s:Tmp):a.put (some s) (a.tmps.getD s undef)=a:=by
 unfold Act.put;have h:a.tmps.setIfInBounds s (a.tmps.getD s undef)=a.tmps:=by
  apply Array.ext_getElem?
  intro k;rw[Array.getElem?_setIfInBounds]
  split
  ·rename_i h
   subst h
   split
   ·rename_i hk
    exact(Array.getElem?_eq_getElem hk).symm
   ·rename_i hk
    rw[Array.getElem?_eq_none (by omega)]
  ·rfl
 show ({ a with tmps:=_ }:Act)=a;rw[h]
theorem q2m:∀ (ss:List Tmp) (a:Act),X4 a ss (ss.map fun s=>a.tmps.getD s undef)=a
 | [],_=>rfl
 | s :: ss,a=>by
  show X4 (a.put (some s) (a.tmps.getD s undef)) ss (ss.map fun s=>a.tmps.getD s undef)=a;rw[put_own];exact q2m ss a
theorem list9 {α:Type _}:∀ {l:List α},l.length=9→∃ a b c d e f g h i,l=[a,b,c,d,e,f,g,h,i]
 | [a,b,c,d,e,f,g,h,i],_=>⟨a,b,c,d,e,f,g,h,i,rfl⟩
theorem q1l (rem:List Nat) (ss:List Tmp) (F:(Nat→Bool)→List Value→World→Prop) {n:Nat} {listed:Array Bool} {a:Act} {w:World}
  (hFS:∀ L vs w,F L vs w→S w) (hB:(invB md ops rem listed n && rem.all fun i=>!(listed.getD i false))=true) (h0:∀ L vs,(∀ i ∈ rem,L i=false)→vs.length=ss.length→F L vs w)
  (hs:∀ i ∈ rem,∀ L vs w,F L vs w→L i=false→(∀ j ∈ waits md ops i,L j=true)→wpOp P ops Q i (fun a' w'=>∃ vs',a'=X4 a ss vs'∧F (upd L i) vs' w') (X4 a ss vs) w)
  (hd:∀ L vs w,F L vs w→(∀ i,i < ops.size→L i=true)→Q .normal (X4 a ss vs) w):wpAnyH P md ops Q S n listed a w:=by
 rw[Bool.and_eq_true,List.all_eq_true] at hB;refine j2b rem (fun L a' w'=>∃ vs,a'=X4 a ss vs∧F L vs w') ?_ ?_ ?_ n listed a w hB.1 ⟨_,(q2m ss a).symm,h0 _ _ (fun i hi=>by simpa using hB.2 i hi) (List.length_map _)⟩
 ·rintro L a' w' ⟨vs,_,h⟩;exact hFS L vs w' h
 ·rintro i hi L a' w' ⟨vs,rfl,h⟩ hl hw;exact hs i hi L vs w' h hl hw
 ·rintro L a' w' ⟨vs,rfl,h⟩ hl;exact hd L vs w' h hl
theorem Q7 {i:Nat} (d:Option Tmp) {oi:Oper} {v:Value} {fuel:Nat} {listed:Array Bool} {a:Act} {w:World} (hi:ops[i]? = some oi) (hd:oi.dst=d)
  (hs:Region.noSelect ops=true) (hf:Region.free md ops listed i=true) (hr:(Region.ready md ops listed).contains i=true)
  (hQ:∀ c a w,Q (.panic c) (a.put d v) w→Q (.panic c) a w) (hy:YieldsIf P ops S oi v a) (hS:S w)
  (h:wpAnyH P md ops Q S fuel (listed.setIfInBounds i true) (a.put d v) w):wpAnyH P md ops Q S (fuel + 1) listed a w:=by
 subst hd;exact wpAnyH_take hi hs hf hr hQ hy hS h
theorem V3 {i:Nat} {o:Oper} {K:Act→World→Prop} {a:Act} {w:World} (ho:ops[i]? = some o) (hg:o.guard=none)
  (h:∀ K':Act→World→Prop,Shut (∀ a w,K a w→K' a w)→Oper.wp P o a w K' Q):wpOp P ops Q i K a w:=by
 refine wpOp_step ho fun K' hK=>?_
 have hw:Region.wanted o (yielded ops a.tmps)=true:=by unfold Region.wanted;rw[hg]
 rw[if_pos hw];exact h K' hK
theorem Oper.wp_value {o:Oper} {a:Act} {w:World} {K:Act→World→Prop} (v:Value) (w':World) (h:(execOp a.eval o).run P w=.ok (.value v) w') (hK:K (a.put o.dst v) w'):Oper.wp P o a w K Q:=by
 unfold Oper.wp;rw[h];exact hK
theorem Oper.wp_enter {o:Oper} {a:Act} {w:World} {K:Act→World→Prop} (f:FuncId) (args:Array Value) (h:(execOp a.eval o).run P w=.ok (.enter f args) w) (hK:Calls P f args w fun e w'=>∃ v,e=.returned v∧K (a.put o.dst v) w'):Oper.wp P o a w K Q:=by
 unfold Oper.wp;rw[h];refine Calls.mono hK ?_;rintro e w' ⟨v,rfl,hv⟩;exact hv
end
end Go
