/- Contracts of xml.Check and xml.Print at a right tree. Condition: at most 1000000 nodes, attributes and letters. -/
import Derived.Test.YtagleefekmdldaaGreatDoorYFdFuel
import Derived.Test.YtagleefekmdldaaGreatDoorYMkClean4
import Derived.Test.YtagleefekmdldaaGreatDoorYMkSafe2
import Derived.Test.YtagleefekmdldaaGreatDoorYMkHtml
import Derived.Test.YtagleefekmdldaaGreatDoorYMkClean2
import Derived.Deep.RegionHeld3
import Derived.Deep.QuietTactic
set_option linter.unusedVariables false
set_option linter.unusedSimpArgs false
set_option maxHeartbeats 8000000
set_option maxRecDepth 100000
namespace Go.Proofs.YtagleefekmdldaaGreatDoor
open Go.Proofs.Tryz Go.RowKit
theorem j06 (n:List UInt8) (a:List Mk.At) (t:List UInt8) (k:Mk.Fo) (deep:Int) (hn:n ≠ []) (hs1:(Mk.z0i 8 (.node n a t k .nil)).1≤3000) (hs2:(Mk.z0i 8 (.node n a t k .nil)).2≤8) (hl:n.length + t.length + Mk.Fo.atB a + k.bulk≤1000000) (hok:Fd.q5b n a t k deep) (va vk:Value) (K:Nat→Prop) (w:World) (hva:AtsV w K va a) (hvk:FoV w K vk k) (hK:∀ b,K b→b < w.heap.size) :
  Calls prog 29 #[z0d n va t vk] w fun e w'=>e=.returned (.int .i64 0)∧Below w.heap.size w w':=by
 have hst:∀ l:List UInt8,(st l).toList=l:=fun l=>Lib.toList_data _
 obtain⟨aoa,capa,hva1,_⟩:=id hva;subst hva1;obtain⟨aok,capk,xsk,hvk1,_⟩:=id hvk;subst hvk1;have hal:=(Below.refl w.heap.size w).alloc (Lr) (.cells #[.string (st n),.slice aoa a.length capa,.string (st t),.slice aok k.len capk] 38);have AL:=Ld hal;have NB:=Ld (Blk.new w 38 #[.string (st n),.slice aoa a.length capa,.string (st t),.slice aok k.len capk]);have hbk:Mk.Fo.bulk (.node n a t k .nil)=1 + n.length + t.length + Mk.Fo.atB a + k.bulk + 0:=rfl;have HSZ:Hid (∀ W g,Below w.heap.size w W→Blk W g 38 #[.string (st n),.slice aoa a.length capa,.string (st t),.slice aok k.len capk]→Calls prog 45 #[.slice (some ⟨g,0,none⟩) 1 1,.int .i64 8] W fun e w'=>e=.returned (.tuple #[.int .i64 (Mk.z0i 8 (.node n a t k .nil)).1,.int .i64 (Mk.z0i 8 (.node n a t k .nil)).2])∧Below W.heap.size W w'):=by
  intro W g hW hb;refine j6u _ (.node n a t k .nil) 8 _ (fun b=>K b∨b=g) W (Nat.lt_succ_self _) (by omega) (Lr) (FoV.one hb (.inr rfl) ((hva.below hK hW).frame fun b q=>⟨.inl q,rfl⟩) ((hvk.below hK hW).frame fun b q=>⟨.inl q,rfl⟩) 1) ?_;rintro b (q | q)
  ·exact Nat.lt_of_lt_of_le (hK b q) hW.size
  ·rw[q];exact hb.lt
 have HND:Hid (∀ W,Below w.heap.size w W→Calls prog 52 #[.agg #[.string (st n),.slice aoa a.length capa,.string (st t),.slice aok k.len capk]] W fun e w'=>e=.returned (.int .i64 0)∧Below W.heap.size W w'):=fun W hW=>xm_node _ n a t k deep (Nat.lt_succ_self _) hl hok _ _ K W (hva.below hK hW) (hvk.below hK hW) (fun b q=>Nat.lt_of_lt_of_le (hK b q) hW.size)
 generalize (Mk.z0i 8 (.node n a t k .nil)).1=c1 at HSZ hs1;generalize (Mk.z0i 8 (.node n a t k .nil)).2=c2 at HSZ hs2;have hc1:¬ (3000:Int) < c1:=by omega
 have hc2:¬ (8:Int) < c2:=by omega
 have en:n.isEmpty=false:=by
  cases n with
  | nil=>exact absurd rfl hn
  | cons _ _=>rfl
 clear hok hbk hl hva hvk hn hs1 hs2 hal;unfold z0d;go_enter func29,ntmps29;go_upto_region 1 with fail;obtain⟨X,hX⟩:∃ X,X=w.heap.size:=⟨_,rfl⟩;rw[← hX] at NB;rw[← hX];generalize w.alloc (.cells #[.string (st n),.slice aoa a.length capa,.string (st t),.slice aok k.len capk] 38)=w1 at AL NB ⊢;clear hX;have p0:w1.cell? ⟨X,0,none⟩=some (.string (st n)):=Blk.cell NB.out 0;have p1:w1.cell? ⟨X,1,none⟩=some (.slice aoa a.length capa):=Blk.cell NB.out 1;have p2:w1.cell? ⟨X,2,none⟩=some (.string (st t)):=Blk.cell NB.out 2;have p3:w1.cell? ⟨X,3,none⟩=some (.slice aok k.len capk):=Blk.cell NB.out 3;have hal2:=(Below.refl w1.heap.size w1).alloc (Lr) (.cells #[.string (st n),.slice aoa a.length capa,.string (st t),.slice aok k.len capk] 38);have AL2:=Ld (AL.out.trans (hal2.mono AL.out.size));have NB2:=Ld (Blk.alloc NB.out (.cells #[.string (st n),.slice aoa a.length capa,.string (st t),.slice aok k.len capk] 38));have QB:=Ld (Blk.new w1 38 #[.string (st n),.slice aoa a.length capa,.string (st t),.slice aok k.len capk]);clear hal2;go_wp2_with fail;refine(HSZ.out _ _ AL2.out QB.out).mono ?_;rintro e w2 ⟨rfl,hb2⟩;have B2:=Ld (AL2.out.trans (hb2.mono AL2.out.size));have NB3:=Ld (Blk.below NB2.out hb2 NB2.out.lt);clear hb2 p0 p1 p2 p3 NB NB2 QB HSZ AL AL2;have p0:w2.cell? ⟨X,0,none⟩=some (.string (st n)):=Blk.cell NB3.out 0;have p1:w2.cell? ⟨X,1,none⟩=some (.slice aoa a.length capa):=Blk.cell NB3.out 1;have p2:w2.cell? ⟨X,2,none⟩=some (.string (st t)):=Blk.cell NB3.out 2;have p3:w2.cell? ⟨X,3,none⟩=some (.slice aok k.len capk):=Blk.cell NB3.out 3;go_wp2_with fail;refine(HND.out _ B2.out).mono ?_;rintro e w3 ⟨rfl,hb3⟩;have B3:=Ld (B2.out.trans (hb3.mono B2.out.size));clear hb3;go_wp2_with fail;go_ret;exact⟨rfl,B3.out⟩
theorem xm_Print (n:List UInt8) (a:List Mk.At) (t:List UInt8) (k:Mk.Fo) (deep:Int) (hn:n ≠ []) (hs1:(Mk.z0i 8 (.node n a t k .nil)).1≤3000) (hs2:(Mk.z0i 8 (.node n a t k .nil)).2≤8) (hl:n.length + t.length + Mk.Fo.atB a + k.bulk≤1000000) (hok:Fd.q5b n a t k deep) (va vk:Value) (K:Nat→Prop) (w:World) (hva:AtsV w K va a) (hvk:FoV w K vk k) (hK:∀ b,K b→b < w.heap.size) :
  Calls prog 27 #[z0d n va t vk] w fun e w'=>e=.returned (.tuple #[.string (st (Fd.xmlB (.node n a t k .nil))),.int .i64 0])∧Below w.heap.size w w':=by
 have hxe:Fd.xmlB (.node n a t k .nil)=Fd.oneB n a t k:=by rw[Fd.z8e];exact List.append_nil _
 rw[hxe];clear hxe;obtain⟨aoa,capa,hva1,_⟩:=id hva;subst hva1;obtain⟨aok,capk,xsk,hvk1,_⟩:=id hvk;subst hvk1;have hal:=(Below.refl w.heap.size w).alloc (Lr) (.cells #[.string (st n),.slice aoa a.length capa,.string (st t),.slice aok k.len capk] 38);have AL:=Ld hal;have NB:=Ld (Blk.new w 38 #[.string (st n),.slice aoa a.length capa,.string (st t),.slice aok k.len capk]);have HCK:Hid (∀ W,Below w.heap.size w W→Calls prog 29 #[.agg #[.string (st n),.slice aoa a.length capa,.string (st t),.slice aok k.len capk]] W fun e w'=>e=.returned (.int .i64 0)∧Below W.heap.size W w'):=fun W hW=>j06 n a t k deep hn hs1 hs2 hl hok _ _ K W (hva.below hK hW) (hvk.below hK hW) (fun b q=>Nat.lt_of_lt_of_le (hK b q) hW.size)
 have HBY:Hid (∀ W,Below w.heap.size w W→Calls prog 51 #[.agg #[.string (st n),.slice aoa a.length capa,.string (st t),.slice aok k.len capk]] W fun e w'=>e=.returned (.string (st (Fd.oneB n a t k)))∧Below W.heap.size W w'):=fun W hW=>xm_bytes _ n a t k (Nat.lt_succ_self _) (by omega) _ _ K W (hva.below hK hW) (hvk.below hK hW) (fun b q=>Nat.lt_of_lt_of_le (hK b q) hW.size)
 generalize Fd.oneB n a t k=out at HBY ⊢;clear hok hl hva hvk hn hs1 hs2 hal;unfold z0d;go_enter func27,ntmps27;go_upto_region 1 with fail;obtain⟨X,hX⟩:∃ X,X=w.heap.size:=⟨_,rfl⟩;rw[← hX] at NB;rw[← hX];generalize w.alloc (.cells #[.string (st n),.slice aoa a.length capa,.string (st t),.slice aok k.len capk] 38)=w1 at AL NB ⊢;clear hX;have p0:w1.cell? ⟨X,0,none⟩=some (.string (st n)):=Blk.cell NB.out 0;have p1:w1.cell? ⟨X,1,none⟩=some (.slice aoa a.length capa):=Blk.cell NB.out 1;have p2:w1.cell? ⟨X,2,none⟩=some (.string (st t)):=Blk.cell NB.out 2;have p3:w1.cell? ⟨X,3,none⟩=some (.slice aok k.len capk):=Blk.cell NB.out 3;go_wp2_with fail;refine(HCK.out _ AL.out).mono ?_;rintro e w2 ⟨rfl,hb2⟩;have B2:=Ld (AL.out.trans (hb2.mono AL.out.size));have NB3:=Ld (Blk.below NB.out hb2 NB.out.lt);clear hb2 p0 p1 p2 p3 NB HCK AL;have p0:w2.cell? ⟨X,0,none⟩=some (.string (st n)):=Blk.cell NB3.out 0;have p1:w2.cell? ⟨X,1,none⟩=some (.slice aoa a.length capa):=Blk.cell NB3.out 1;have p2:w2.cell? ⟨X,2,none⟩=some (.string (st t)):=Blk.cell NB3.out 2;have p3:w2.cell? ⟨X,3,none⟩=some (.slice aok k.len capk):=Blk.cell NB3.out 3;go_wp2_with fail;refine(HBY.out _ B2.out).mono ?_;rintro e w3 ⟨rfl,hb3⟩;have B3:=Ld (B2.out.trans (hb3.mono B2.out.size));clear hb3;go_wp2_with fail;go_ret2;exact⟨rfl,B3.out⟩
end Go.Proofs.YtagleefekmdldaaGreatDoor
namespace Mk
def docK:Fo:=.node [] [] [120] .nil (.node [110,58,101] [] [] .nil .nil)
def docA:List At:=[⟨[97],[60,38]⟩]
end Mk
namespace Go.Proofs.YtagleefekmdldaaGreatDoor
open Go.Proofs.Tryz Go.RowKit
theorem q9b (w:World) :
  Calls prog 28 #[] w fun e w'=>∃ va vk,e=.returned (z0d [114] va [] vk)∧AtsV w' (fun b=>w.heap.size≤b∧b < w'.heap.size) va Mk.docA∧FoV w' (fun b=>w.heap.size≤b∧b < w'.heap.size) vk Mk.docK∧Below w.heap.size w w':=by
 go_enter func28,ntmps28;go_wp2_with fail;have b0:=Blk.new w 38 #[.string (st [114]),.slice (some ⟨w.heap.size + 1,0,none⟩) 1 1,.string (st []),.slice (some ⟨w.heap.size + 1 + 1,0,none⟩) 2 2];have b1:=Blk.new (w.alloc (.cells #[.string (st [114]),.slice (some ⟨w.heap.size + 1,0,none⟩) 1 1,.string (st []),.slice (some ⟨w.heap.size + 1 + 1,0,none⟩) 2 2] 38)) 73 #[.string (st [97]),.string (st [60,38])];have b2:=Blk.new ((w.alloc (.cells #[.string (st [114]),.slice (some ⟨w.heap.size + 1,0,none⟩) 1 1,.string (st []),.slice (some ⟨w.heap.size + 1 + 1,0,none⟩) 2 2] 38)).alloc (.cells #[.string (st [97]),.string (st [60,38])] 73)) 38 (Z9 [] [120] (.slice none 0 0)++(Z9 [110,58,101] [] (.slice none 0 0)++[])).toArray;have BB:=(((Below.refl w.heap.size w).alloc (Lr) (.cells #[.string (st [114]),.slice (some ⟨w.heap.size + 1,0,none⟩) 1 1,.string (st []),.slice (some ⟨w.heap.size + 1 + 1,0,none⟩) 2 2] 38)).alloc (by simp) (.cells #[.string (st [97]),.string (st [60,38])] 73)).alloc (by simp;omega) (.cells (Z9 [] [120] (.slice none 0 0)++(Z9 [110,58,101] [] (.slice none 0 0)++[])).toArray 38);have b0':=Blk.alloc (Blk.alloc b0 (.cells #[.string (st [97]),.string (st [60,38])] 73)) (.cells (Z9 [] [120] (.slice none 0 0)++(Z9 [110,58,101] [] (.slice none 0 0)++[])).toArray 38);have b1':=Blk.alloc b1 (.cells (Z9 [] [120] (.slice none 0 0)++(Z9 [110,58,101] [] (.slice none 0 0)++[])).toArray 38);simp only [World.size_alloc] at b1' b2;show bodyPost _ _ _ _ _ (((w.alloc (.cells #[.string (st [114]),.slice (some ⟨w.heap.size + 1,0,none⟩) 1 1,.string (st []),.slice (some ⟨w.heap.size + 1 + 1,0,none⟩) 2 2] 38)).alloc (.cells #[.string (st [97]),.string (st [60,38])] 73)).alloc (.cells (Z9 [] [120] (.slice none 0 0)++(Z9 [110,58,101] [] (.slice none 0 0)++[])).toArray 38));have hsz:(((w.alloc (.cells #[.string (st [114]),.slice (some ⟨w.heap.size + 1,0,none⟩) 1 1,.string (st []),.slice (some ⟨w.heap.size + 1 + 1,0,none⟩) 2 2] 38)).alloc (.cells #[.string (st [97]),.string (st [60,38])] 73)).alloc (.cells (Z9 [] [120] (.slice none 0 0)++(Z9 [110,58,101] [] (.slice none 0 0)++[])).toArray 38)).heap.size=w.heap.size + 3:=by simp only [World.size_alloc]
 generalize (((w.alloc (.cells #[.string (st [114]),.slice (some ⟨w.heap.size + 1,0,none⟩) 1 1,.string (st []),.slice (some ⟨w.heap.size + 1 + 1,0,none⟩) 2 2] 38)).alloc (.cells #[.string (st [97]),.string (st [60,38])] 73)).alloc (.cells (Z9 [] [120] (.slice none 0 0)++(Z9 [110,58,101] [] (.slice none 0 0)++[])).toArray 38))=W at b0' b1' b2 BB hsz ⊢;clear b0 b1;have p0:W.cell? ⟨w.heap.size,0,none⟩=some (.string (st [114])):=Blk.cell b0' 0;have p1:W.cell? ⟨w.heap.size,1,none⟩=some (.slice (some ⟨w.heap.size + 1,0,none⟩) 1 1):=Blk.cell b0' 1;have p2:W.cell? ⟨w.heap.size,2,none⟩=some (.string (st [])):=Blk.cell b0' 2;have p3:W.cell? ⟨w.heap.size,3,none⟩=some (.slice (some ⟨w.heap.size + 1 + 1,0,none⟩) 2 2):=Blk.cell b0' 3;have FIN:=Ld (And.intro b1' (And.intro b2 (And.intro BB hsz)));clear b0' b1' b2 BB hsz;refine bodyPost_ret (v:=z0d [114] (.slice (some ⟨w.heap.size + 1,0,none⟩) 1 1) [] (.slice (some ⟨w.heap.size + 1 + 1,0,none⟩) 2 2)) (by simp[results,results28,go_sem, *];rfl) rfl ?_;obtain⟨b1,b2,BB,hsz⟩:=FIN.out;refine⟨_,_,rfl,?_,?_,BB⟩
 ·refine⟨_,1,rfl,.inr ⟨w.heap.size + 1,0,rfl,⟨by omega,by omega⟩,fun i v hi=>?_,fun i _=>Blk.frozen b1 _⟩,Lr,by decide⟩
  rw[Nat.zero_add,Blk.cell b1 i,← hi];simp[Z5,Mk.docA]
 ·exact FoV.of_blk (f:=Mk.docK) b2 ⟨by omega,by omega⟩ (Y0.one (k:=.nil) (FoV.nil0 _ _) (Y0.one (k:=.nil) (FoV.nil0 _ _) (Y0.nil0 _ _))) (by decide)
end Go.Proofs.YtagleefekmdldaaGreatDoor
namespace Fd
open Mk
theorem q0h:∀ (f g:Fo),Fo.bulk (f.app g)=Fo.bulk f + Fo.bulk g
 | .nil,g=>by show Fo.bulk g=0 + Fo.bulk g;omega
 | .node n a t k r,g=>by
  have:=q0h r g;show 1 + n.length + t.length + Fo.atB a + Fo.bulk k + Fo.bulk (r.app g)=1 + n.length + t.length + Fo.atB a + Fo.bulk k + Fo.bulk r + Fo.bulk g;omega
theorem j6n (f:Bool) (s:Bs):(z5f f s).length≤s.length:=by
 induction s generalizing f with
 | nil=>exact Lr
 | cons c t ih =>
  unfold z5f
  split
  ·have:=ih false;simp;omega
  ·exact Nat.zero_le _
theorem q1x {s n r:Bs} (h:X5 s=.ok n r):n.length + r.length=s.length∧n.length≤20∧X0 n=true:=by
 unfold X5 at h
 split at h
 ·rename_i hi
  injection h with h1 h2;have:=j6n true s;have hh:=hi;unfold X0 at hh;rw[Bool.and_eq_true,decide_eq_true_iff] at hh;rw[← h1,← h2,List.length_drop];exact⟨by omega,hh.2,hi⟩
 ·cases h
theorem q8u {s v r:Bs} (h:z2s s=.ok v r):v.length + 5 * r.length + 5≤5 * s.length:=by
 unfold z2s at h;simp only at h;generalize (if Mg.pre [39] s=true then (39:UInt8) else 34)=q at h
 cases hn:z05 [q] s with
 | er e=>rw[hn] at h;cases h
 | ok u r1 =>
  rw[hn] at h;simp only at h;have h1:=z0v hn
  cases ht:toX [q] r1 with
  | er e=>rw[ht] at h;cases h
  | ok v1 r2 =>
   rw[ht] at h;simp only at h;have h2:=z9l (by simp) ht;simp only [List.length_cons,List.length_nil] at h1 h2
   split at h
   ·cases h
   split at h
   ·injection h with h3 h4
    have:=take_len v1;rw[← h4,← h3];omega
   ·cases h
theorem q2j {s r:Bs} {a:At} (h:z3p s=.ok a r):1 + a.n.length + a.v.length + 5 * r.length≤5 * s.length:=by
 unfold z3p at h
 cases h1:X5 s with
 | er e=>rw[h1] at h;cases h
 | ok n r1 =>
  rw[h1] at h;simp only at h;have l1:=(q1x h1).1
  cases h2:z05 [61] (V9 r1) with
  | er e=>rw[h2] at h;cases h
  | ok u r2 =>
   rw[h2] at h;simp only at h;have l2:=z0v h2;have l3:=z8x r1;simp only [List.length_cons,List.length_nil] at l2
   cases h3:z2s (V9 r2) with
   | er e=>rw[h3] at h;cases h
   | ok v z =>
    rw[h3] at h;injection h with h4 h5;have l4:=q8u h3;have l5:=z8x r2;rw[← h5,← h4];show 1 + n.length + v.length + _≤_;omega
theorem z97:∀ (n:Nat) (s:Bs) (out l:List At) (r:Bs),z01 n s out=.ok l r→Fo.atB l + 5 * r.length≤Fo.atB out + 5 * s.length
 | 0,s,out,l,r,h=>by rw[z01] at h;injection h with h1 h2;rw[← h2,← h1];exact Lr
 | n + 1,s,out,l,r,h=>by
  rw[z01] at h
  split at h
  ·rename_i hl
   cases hs:V9 s with
   | nil=>rw[hs] at h;injection h with h1 h2;rw[← h2,← h1];simp
   | cons c t =>
    rw[hs] at h hl;simp only at h
    split at h
    ·cases ha:z3p (c :: t) with
     | er e=>rw[ha] at h;cases h
     | ok a r1 =>
      rw[ha] at h;simp only at h;have l1:=q2j ha
      split at h
      ·cases h
      ·have:=z97 n r1 _ l r h
       rw[q3v] at this;omega
    ·injection h with h1 h2;rw[← h2,← h1];omega
  ·injection h with h1 h2;rw[← h2,← h1];exact Lr
theorem z6m (f:Fo) (t:Bs):Fo.bulk (z90 f t)≤Fo.bulk f + (1 + t.length):=by
 unfold z90
 split
 ·omega
 ·have:=Fo.z4g f [] [] t .nil
  have h0:Fo.atB ([]:List At)=0:=rfl;have h1:Fo.bulk .nil=0:=rfl;rw[h0,h1] at this;simp only [List.length_nil] at this;omega
mutual
theorem q2v:∀ (n:Nat) (deep:Int) (s:Bs) (x:El) (r:Bs),z3h n deep s=.ok x r→1 + x.name.length + Fo.atB x.ats + Fo.bulk x.kids + 5 * r.length≤5 * s.length
 | 0,deep,s,x,r,h=>by rw[z3h] at h;cases h
 | n + 1,deep,s,x,r,h=>by
  rw[z3h] at h
  cases h1:z05 [60] s with
  | er e=>rw[h1] at h;cases h
  | ok u1 r1 =>
  rw[h1] at h;simp only at h;have l1:=z0v h1;simp only [List.length_cons,List.length_nil] at l1
  cases h2:X5 r1 with
  | er e=>rw[h2] at h;cases h
  | ok nm r2 =>
  rw[h2] at h;simp only at h;have l2:=(q1x h2).1
  split at h
  ·cases h
  cases h3:z1u r2 with
  | er e=>rw[h3] at h;cases h
  | ok l r3 =>
  rw[h3] at h;simp only at h;have l3:=z97 _ _ _ _ _ h3;have h0:Fo.atB ([]:List At)=0:=rfl;rw[h0] at l3;have hn0:Fo.bulk .nil=0:=rfl
  split at h
  ·injection h with hx hr;rw[← hr,← hx,List.length_drop];simp only [hn0];omega
  cases h4:z05 [62] r3 with
  | er e=>rw[h4] at h;cases h
  | ok u4 r4 =>
  rw[h4] at h;simp only at h;have l4:=z0v h4;simp only [List.length_cons,List.length_nil] at l4
  cases h5:z1e n deep r4 .nil with
  | er e=>rw[h5] at h;cases h
  | ok k r5 =>
  rw[h5] at h;simp only at h;have l5:=z4c n deep r4 .nil k r5 h5;rw[hn0] at l5
  cases h6:X5 r5 with
  | er e=>rw[h6] at h;cases h
  | ok nm2 r6 =>
  rw[h6] at h;simp only at h;have l6:=z4i h6
  split at h
  ·cases h
  cases h7:z05 [62] (V9 r6) with
  | er e=>rw[h7] at h;cases h
  | ok u7 r7 =>
  rw[h7] at h;injection h with hx hr;have l7:=z0v h7;have l8:=z8x r6;simp only [List.length_cons,List.length_nil] at l7;rw[← hr,← hx];show 1 + nm.length + Fo.atB l + Fo.bulk k + _≤_;omega
theorem z4c:∀ (n:Nat) (deep:Int) (s:Bs) (out k:Fo) (r:Bs),z1e n deep s out=.ok k r→Fo.bulk k + 5 * r.length≤Fo.bulk out + 5 * s.length
 | 0,deep,s,out,k,r,h=>by rw[z1e] at h;cases h
 | n + 1,deep,s,out,k,r,h=>by
  rw[z1e] at h
  split at h
  ·rename_i hp
   have:=z0t hp;injection h with hk hr;simp only [List.length_cons,List.length_nil] at this;rw[← hr,← hk,List.length_drop];omega
  split at h
  ·rename_i hp
   have:=z0t hp;simp only [List.length_cons,List.length_nil] at this
   cases h1:toX [93,93,62] (s.drop 9) with
   | er e=>rw[h1] at h;cases h
   | ok t1 r1 =>
    rw[h1] at h;simp only at h;have l1:=z9l (by simp) h1;rw[List.length_drop] at l1;have:=z4c n deep r1 _ k r h;have:=z6m out t1;omega
  cases ha:z0x s with
  | some x =>
   rw[ha] at h
   cases x with
   | er e=>cases h
   | ok u r1 =>
    simp only at h;have:=z3y ha;have:=z4c n deep r1 _ k r h;omega
  | none =>
   rw[ha] at h;simp only at h
   split at h
   ·cases he:z3h n (deep + 1) s with
    | er e=>rw[he] at h;cases h
    | ok x r1 =>
     rw[he] at h;simp only at h;have l1:=q2v n (deep + 1) s x r1 he;have l2:=z4c n deep r1 _ k r h;rw[q0h] at l2;have h0:Fo.bulk (.node x.name x.ats [] x.kids .nil)=1 + x.name.length + 0 + Fo.atB x.ats + Fo.bulk x.kids + 0:=rfl;omega
   ·rename_i hno
    cases hz:z00 [60] s with
    | none=>rw[hz] at h;cases h
    | some y =>
     rw[hz] at h;simp only at h
     split at h
     ·have l2:=z4c n deep _ _ k r h
      rw[List.length_drop] at l2;have hy:=z4m [60] (by simp) s y hz;simp only [List.length_cons,List.length_nil] at hy;have h0:=List.length_pos_iff.2 (q3u (by simpa using hno) hz);have l3:=z6m out (take y.1).1;have l4:=take_len y.1;omega
     ·cases h
end
end Fd
namespace Go.Proofs.YtagleefekmdldaaGreatDoor
open Go.RowKit
structure AtI (w wx:World) (R:Nat) (s:ByteArray) (j:Nat) (o:Value) (out:List Mk.At):Prop where
 rl:R < w.heap.size
 x:Xr wx R s j
 ap:Ap (fun b=>b=R) w wx
 ow:wx.ownsRow w.heap.size 73 2 o out.length (Z5 out)
structure AtJ (w wx:World) (R:Nat) (s:ByteArray) (j:Nat) (o:Value) (out:List Mk.At) (P:Nat) (nm v:List UInt8):Prop where
 i:AtI w wx R s j o out
 pl:w.heap.size≤P
 po:o.ownBlock ≠ some P
 pb:Blk wx P 73 #[.string (st nm),.string (st v)]
section
variable {w wx wy : World} {R : Nat} {s : ByteArray} {j j' : Nat} {o : Value} {out : List Mk.At} {P : Nat} {nm v : List UInt8}
theorem AtI.not (h:AtI w wx R s j o out):∀ g,w.heap.size≤g→¬ (fun b=>b=R) g:=by
 intro g hg e;have e:g=R:=e;have:=h.rl;omega
theorem AtI.moved (h:AtI w wx R s j o out) (hm:Moved R wx wy) (hx:Xr wy R s j'):AtI w wy R s j' o out:=⟨h.rl,hx,h.ap.trans hm.ap,z1a h.ow hm.ap h.not⟩
theorem AtI.below (h:AtI w wx R s j o out) (hb:Below wx.heap.size wx wy):AtI w wy R s j o out :=
 ⟨h.rl,(hb.block R (Blk.lt h.x)).trans h.x,h.ap.trans (Ap.of_below hb),z1a h.ow (Ap.of_below (S:=fun b=>b=R) hb) h.not⟩
theorem AtI.drewN (h:AtI w wx R s j o out) (n:Nat):AtI w (wx.drewN n) R s j o out:=h.moved ((Moved.refl R wx).drewN n) (h.x.drewN n)
theorem AtI.gl (h:AtI w wx R s j o out) (hg:Gl w) (hR:1 < R):Gl wx:=hg.ap h.ap (by intro e;have e:0=R:=e;omega) (by intro e;have e:1=R:=e;omega)
theorem AtI.new (h:AtI w wx R s j o out) (nm:List UInt8):AtJ w (wx.alloc (.cells #[.string (st nm),.string ⟨#[]⟩] 73)) R s j o out wx.heap.size nm [] :=
 ⟨h.below ((Below.refl _ wx).alloc (Lr) _),h.ap.size,fun e=>absurd (h.ow.lt _ e).2 (Nat.lt_irrefl _),Blk.new wx _ _⟩
theorem AtJ.ne (h:AtJ w wx R s j o out P nm v):P ≠ R:=by
 have h1:=h.i.rl;have h2:=h.pl;omega
theorem AtJ.moved (h:AtJ w wx R s j o out P nm v) (hm:Moved R wx wy) (hx:Xr wy R s j'):AtJ w wy R s j' o out P nm v:=⟨h.i.moved hm hx,h.pl,h.po,hm.blk h.pb h.ne⟩
theorem AtJ.below (h:AtJ w wx R s j o out P nm v) (hb:Below wx.heap.size wx wy):AtJ w wy R s j o out P nm v:=⟨h.i.below hb,h.pl,h.po,(hb.block P (Blk.lt h.pb)).trans h.pb⟩
theorem AtJ.drewN (h:AtJ w wx R s j o out P nm v) (n:Nat):AtJ w (wx.drewN n) R s j o out P nm v:=h.moved ((Moved.refl R wx).drewN n) (h.i.x.drewN n)
theorem AtJ.set_ (h:AtJ w wx R s j o out P nm v) (v':List UInt8):AtJ w (wx.setCell ⟨P,1,none⟩ (.string (st v'))) R s j o out P nm v' :=
 ⟨⟨h.i.rl,Blk.far h.i.x (p:=⟨P,1,none⟩) (fun e=>h.ne e.symm) _,h.i.ap.setNew (p:=⟨P,1,none⟩) h.pl _,ownsRow_setCell_other h.i.ow (a:=⟨P,1,none⟩) h.po _⟩,h.pl,h.po,Blk.set_ h.pb 1 _⟩
theorem AtJ.pushed (h:AtJ w wx R s j o out P nm v) {cs:Array Value} {T:TypeId} {v':Value} {wz:World}
  (hown:wz.ownsRow w.heap.size 73 2 v' (out.length + 1) (Z5 out++[.string (st nm),.string (st v)])) (hgr:(wx.alloc (.cells cs T)).grownBy wz o.ownBlock):AtI w wz R s j v' (out++[⟨nm,v⟩]):=by
 refine⟨h.i.rl,?_,(h.i.ap.alloc (.cells cs T)).grown hgr (fun k hk e=>absurd hk (by have:=(h.i.ow.lt k e).1;omega)),?_⟩
 ·exact(hgr.block R (by have:=Blk.lt h.i.x;simp;omega) (fun e=>h.i.not R (h.i.ow.lt R e.symm).1 rfl)).trans (Blk.alloc h.i.x _)
 ·rw[List.length_append,show Z5 (out++[(⟨nm,v⟩:Mk.At)])=Z5 out++[.string (st nm),.string (st v)] by simp[Z5]]
  exact hown
end
end Go.Proofs.YtagleefekmdldaaGreatDoor
namespace Go.Proofs.YtagleefekmdldaaGreatDoor
open Go.Proofs.Tryz Go.RowKit
section
variable {w w' : World} {R : Nat} {s : ByteArray} {k : Nat}
def q1k (j j1:Nat) (l:List UInt8):Bool:=decide (j < j1) && (match l with | []=>false | c :: _=>Fd.z1s true c)
theorem j3g {w0:World} {j:Nat} {o:Value} {out:List Mk.At} {P:Nat} {nm v:List UInt8} (p:List UInt8) (h:AtJ w0 w R s j o out P nm v) (hk:j≤s.size) (hs:s.size≤100000) :
  Calls prog 101 #[.pointer (some ⟨R,0,none⟩),.string (st p)] w fun e w'=>e=.returned (.bool (Mg.pre p (s.data.toList.drop j)))∧AtJ w0 w' R s j o out P nm v:=by
 refine(z4l p h.i.x hk (by omega)).mono ?_;rintro e w1 ⟨rfl,n,hw⟩;subst hw;exact⟨rfl,h.drewN n⟩
theorem j08 {w0:World} {j:Nat} {o:Value} {out:List Mk.At} {P:Nat} {nm v:List UInt8} (p:List UInt8) (h:AtJ w0 w R s j o out P nm v) (hk:j≤s.size) (hs:s.size≤100000) :
  Calls prog 98 #[.pointer (some ⟨R,0,none⟩),.string (st p)] w fun e w'=>(Fd.z05 p (s.data.toList.drop j)=.ok () (s.data.toList.drop (j + p.length))∧j + p.length≤s.size∧e=.returned (.tuple #[])∧AtJ w0 w' R s (j + p.length) o out P nm v)∨(Fd.z05 p (s.data.toList.drop j)=.er 1∧e=GaveX 1∧AtJ w0 w' R s j o out P nm v):=by
 refine(j7d p h.i.x hk (by omega)).mono ?_;rintro e w1 (⟨h1,h2,h3,h4,h5⟩ | ⟨h1,h2,n,h3⟩)
 ·exact .inl ⟨by rw[Fd.z05,if_pos h1,List.drop_drop],h2,h3,h.moved h5 h4⟩
 ·subst h3
  exact .inr ⟨by rw[Fd.z05,if_neg (by rw[h1];simp)],h2,h.drewN n⟩
theorem q75 {w0:World} {j:Nat} {o:Value} {out:List Mk.At} {P:Nat} {nm v:List UInt8} (h:AtJ w0 w R s j o out P nm v) (hk:j≤s.size) (hs:s.size≤100000) :
  Calls prog 96 #[.pointer (some ⟨R,0,none⟩)] w fun e w'=>∃ j1,j≤j1∧j1≤s.size∧s.data.toList.drop j1=Fd.V9 (s.data.toList.drop j)∧e=.returned (.int .i64 ((j1:Int) - j))∧AtJ w0 w' R s j1 o out P nm v:=by
 refine(q0d h.i.x hk (by omega)).mono ?_;rintro e w1 ⟨j1,h1,h2,h3,h4,h5,h6⟩;exact⟨j1,h1,h2,h4,h3,h.moved h6 h5⟩
theorem xr_toA {w0:World} {j:Nat} {o:Value} {out:List Mk.At} {P:Nat} {nm v:List UInt8} (p:List UInt8) (hp:p ≠ []) (hpl:p.length≤3) (hg:Gl w0) (hR:1 < R) (h:AtJ w0 w R s j o out P nm v) (hk:j≤s.size) (hs:s.size≤100000) :
  Calls prog 127 #[.pointer (some ⟨R,0,none⟩),.string (st p)] w fun e w'=>(Fd.toX p (s.data.toList.drop j)=.er 1∧e=GaveX 1∧AtJ w0 w' R s j o out P nm v)∨∃ a j1,Fd.toX p (s.data.toList.drop j)=.ok a (s.data.toList.drop j1)∧e=.returned (.string (st a))∧a.length≤s.size∧j < j1∧j1≤s.size∧AtJ w0 w' R s j1 o out P nm v:=by
 refine(xr_to p (h.i.gl hg hR) h.i.x hk (by omega) hp hpl).mono ?_;rintro e w1 (⟨h1,h2,n,h3⟩ | ⟨a,j1,h1,h2,h3,h4,h5,h6⟩)
 ·subst h3
  exact .inl ⟨by rw[Fd.toX,h1],h2,h.drewN n⟩
 ·have ht:Fd.toX p (s.data.toList.drop j)=.ok a (s.data.toList.drop j1):=by rw[Fd.toX,h1]
  have:=Fd.z9l hp ht;rw[List.length_drop,List.length_drop,bs_len] at this;exact .inr ⟨a,j1,ht,h2,by omega,h3,h4,h.moved h6 h5⟩
theorem xm_toldA {w0:World} {j:Nat} {o:Value} {out:List Mk.At} {P:Nat} {nm v:List UInt8} (x:List UInt8) (hx:x.length≤100000) (hg:Gl w0) (hR:1 < R) (h:AtJ w0 w R s j o out P nm v) :
  Calls prog 129 #[.string (st x)] w fun e w'=>AtJ w0 w' R s j o out P nm v∧(((Mk.take x).2=true∧e=.returned (.string (st (Mk.take x).1)))∨((Mk.take x).2=false∧e=GaveX 1)):=by
 refine(q8x x w (by omega) (h.i.gl hg hR)).mono ?_;rintro e w1 ⟨h1,h2⟩;exact⟨h.below h1,h2⟩
theorem j0w (x:List UInt8):Lib.contains x [60]=x.contains 60:=by
 unfold Lib.contains
 induction x with
 | nil=>rfl
 | cons c t ih =>
  unfold Lib.index;have hge:=Lib.index_ge t [60]
  by_cases hc:c=60
  ·subst hc;rfl
  ·have h1:([60]:List UInt8).isPrefixOf (c :: t)=false:=by
    rw[Bool.eq_false_iff];intro q;simp[List.isPrefixOf] at q;exact hc q.symm
   rw[h1];rw[List.contains_cons,← ih,show ((60:UInt8) == c)=false from beq_eq_false_iff_ne.2 (fun e=>hc e.symm),Bool.false_or];simp only [Bool.false_eq_true,if_false]
   by_cases h2:Lib.index t [60] = -1
   ·simp[h2]
   ·have h3:(Lib.index t [60] == -1)=false:=beq_eq_false_iff_ne.2 h2
    rw[h3];simp only [Bool.false_eq_true,if_false];rw[Bool.eq_iff_iff];simp;omega
end
end Go.Proofs.YtagleefekmdldaaGreatDoor
namespace Go
section
variable {P : Program} {Q : Exit→Act→World→Prop} {a : Act} {w : World} {o0 o1 : Oper} {l : List Oper}
theorem z3f {id:Nat} (hm:P.follows .mixedOrders=true) (hs:Region.noSelect (o0 :: o1 :: l).toArray=true)
  (h0:Region.ready .any (o0 :: o1 :: l).toArray (Array.replicate (o0 :: o1 :: l).toArray.size false)=[0])
  (h1:Region.ready .any (o0 :: o1 :: l).toArray ((Array.replicate (o0 :: o1 :: l).toArray.size false).setIfInBounds 0 true)=[1])
  (hB:Region.lexFrom .any (o0 :: o1 :: l).toArray l.length 2 (((Array.replicate (o0 :: o1 :: l).toArray.size false).setIfInBounds 0 true).setIfInBounds 1 true)=true)
  (g0:o0.guard=none) (g1:o1.guard=none)
  (h:o0.wp P a w.drew (fun a0 w0=>o1.wp P a0 w0 (fun a1 w1=>wpQuiet P (o0 :: o1 :: l).toArray (fun w'=>∃ n,w'=w1.drewN n) (fun a'=>∀ w',(∃ n,w'=w1.drewN n)→Q .normal a' w') l a1) Q) Q) :
  (Code.region id (o0 :: o1 :: l).toArray true).wp P Q a w:=by
 refine wp_region_any hm ?_;have hsz:(o0 :: o1 :: l).toArray.size=l.length + 1 + 1:=by simp
 have wn:∀ (o:Oper) (ts:Nat→Option Bool),o.guard=none→Region.wanted o ts=true:=by
  intro o ts hg;unfold Region.wanted;rw[hg]
 show wpAny P .any (o0 :: o1 :: l).toArray Q (o0 :: o1 :: l).toArray.size _ a w.drew;have main:∀ listed:Array Bool,listed=Array.replicate (o0 :: o1 :: l).toArray.size false→wpAny P .any (o0 :: o1 :: l).toArray Q (l.length + 1 + 1) listed a w.drew:=by
  intro listed hl;subst hl;refine⟨fun e=>by rw[h0] at e;(cases e),fun i hi=>?_⟩;rw[h0] at hi;have hi:i=0:=by simpa using hi
  subst hi;unfold wpOp;have e0:(o0 :: o1 :: l).toArray[0]? = some o0:=rfl;rw[e0];simp only;rw[if_pos (wn o0 _ g0)];refine .inl (Oper.wp_mono (fun a0 w0 hh=>?_) h);refine⟨fun e=>by rw[h1] at e;(cases e),fun i hi=>?_⟩;rw[h1] at hi;have hi:i=1:=by simpa using hi
  subst hi;unfold wpOp;have e1:(o0 :: o1 :: l).toArray[1]? = some o1:=rfl;rw[e1];simp only;rw[if_pos (wn o1 _ g1)];refine .inl (Oper.wp_mono (fun a1 w1 hh=>?_) hh);refine wpAny_of_quiet (C:=fun w'=>∃ n,w'=w1.drewN n) (Q:=fun a'=>∀ w',(∃ n,w'=w1.drewN n)→Q .normal a' w') (fun _ w' hw' h=>h w' hw') _ _ _ _ ⟨0,rfl⟩ ?_;exact wpAnyQ_lex hs l 2 _ _ (fun j=>by simp[Nat.add_comm 2 j]) hB hh
 rw[hsz];exact main _ (by rw[hsz])
end
end Go
namespace Fd
open Mk
def z5j (s:Bs):UInt8:=if Mg.pre [39] s=true then 39 else 34
theorem attrX_t {s:Bs} {e:Int} (h:X5 s=.er e):z3p s=.er e:=by rw[z3p,h]
theorem attrX_n {s nm r:Bs} {e:Int} (h:X5 s=.ok nm r) (h2:z05 [61] (V9 r)=.er e):z3p s=.er e:=by rw[z3p,h];simp only;rw[h2]
theorem attrX_v {s nm r z:Bs} {u:Unit} (h:X5 s=.ok nm r) (h2:z05 [61] (V9 r)=.ok u z):z3p s=match z2s (V9 z) with | .er e=>.er e | .ok v y=>.ok ⟨nm,v⟩ y:=by rw[z3p,h];simp only;rw[h2];rfl
theorem valueX_n {s:Bs} {e:Int} (h:z05 [z5j s] s=.er e):z2s s=.er e:=by
 unfold z5j at h;unfold z2s;simp only;rw[h]
theorem valueX_t {s r:Bs} {u:Unit} {e:Int} (h:z05 [z5j s] s=.ok u r) (h2:toX [z5j s] r=.er e):z2s s=.er e:=by
 unfold z5j at h h2;unfold z2s;simp only;rw[h];simp only;rw[h2]
theorem valueX_c {s r v z:Bs} {u:Unit} (h:z05 [z5j s] s=.ok u r) (h2:toX [z5j s] r=.ok v z):z2s s=if v.contains 60 then .er 1 else if (Mk.take v).2 then .ok (Mk.take v).1 z else .er 1:=by
 unfold z5j at h h2;unfold z2s;simp only;rw[h];simp only;rw[h2]
end Fd
namespace Go.Proofs.YtagleefekmdldaaGreatDoor
open Go.Proofs.Tryz Go.RowKit
section
variable {w w' : World} {R : Nat} {s : ByteArray} {k : Nat}
theorem xr_attrs (hg:Gl w) (hR:1 < R) (h:Xr w R s k) (hk:k≤s.size) (hs:s.size≤100000) :
  Calls prog 100 #[.pointer (some ⟨R,0,none⟩)] w fun e w' =>
   (∃ er,Fd.z1u (s.data.toList.drop k)=.er er∧e=GaveX er∧Ap (fun b=>b=R) w w') ∨
   ∃ l j v,Fd.z1u (s.data.toList.drop k)=.ok l (s.data.toList.drop j)∧e=.returned v∧k≤j∧j≤s.size∧Mk.Fo.atB l≤5 * j∧AtI w w' R s j v l:=by
 have HG:=Ld hg;have HX:=Ld h;clear hg h;go_enter func100,ntmps100;go_wp2_with fail
 go_loopg [3] s.size (fun g o wx=>∃ j out,k≤j∧j≤s.size∧s.size≤j + g∧Mk.Fo.atB out≤5 * j∧Hid (Fd.z1u (s.data.toList.drop k)=Fd.z3k (s.data.toList.drop j) out)∧Hid (AtI w wx R s j o out))
 case atStart=>exact⟨k,[],Lr,hk,by omega,Nat.zero_le _,rfl,⟨Blk.lt HX.out,HX.out,Ap.refl _ _,World.ownsRow_nil _ _ _ _⟩⟩
 case round =>
  obtain⟨j,out,hkj,hjs,hfu,hab,HA,I⟩:=hrel;obtain⟨j1,hjj1,hjs1,hd1⟩:=skip_at s j hjs;have HD1:=Ld hd1;have HW:=Ld (j3j (w:=wr.drew) (Blk.drew I.out.x) hjs (by omega) hjs1 hd1);clear hd1;obtain⟨b,hb⟩:∃ b,q1k j j1 (s.data.toList.drop j1)=b:=⟨_,rfl⟩;have HB:=Ld hb;clear hb;go_upto_region 2 with fail
  go_cut [33] (fun x wx=>x=.bool b∧Hid (AtI w wx R s j1 u3 out))
  case first =>
   as_aux_lemma =>
   have HC0:Hid (wr.drew.cell? ⟨R,0,none⟩=some (.string s)):=(I.out.drewN 1).x.c0
   by_cases hlt:j < j1
   ·have hp:(0:Int) < (j1:Int) - j:=by omega
    by_cases hlt1:j1 < s.size
    ·have hdr:=X6 s j1 hlt1
     have hb:Fd.z1s true s[j1]=b:=by
      have:=HB.out;unfold q1k at this;rw[hdr,decide_eq_true hlt] at this;exact this
     have HT:=Ld (fun W=>z3o s[j1] true W);rw[hb] at HT;have hj1:(j1:Int) < s.size:=by omega
     clear hb hdr;refine z3f (by kernel_rfl) (by kernel_rfl) (by kernel_rfl) (by kernel_rfl) (by kernel_rfl) rfl rfl ?_;go_wp2_with fail;refine HW.out.mono ?_;rintro e w7 ⟨rfl,X7,MV7⟩;have d0:=X7.c0;have d1:=X7.c1;have I7:=Ld ((I.out.drewN 1).moved MV7 X7);clear X7 MV7
     dsimp only
     repeat (quiet_step ((go_at_call 112;exact Calls.quiet_of_same (HT.out _))))
     with_reducible refine wpQuiet_nil ?_
     intro nq
     all_goals
      go_wp2_with fail;go_meet
      case rel=>exact⟨rfl,I7.out.drewN nq⟩
    ·have hb:false=b:=by
      have:=HB.out;unfold q1k at this;rw[List.drop_of_length_le (by rw[bs_len];omega),Bool.and_false] at this;exact this
     subst hb;have hj1:¬ (j1:Int) < s.size:=by omega
     refine z3f (by kernel_rfl) (by kernel_rfl) (by kernel_rfl) (by kernel_rfl) (by kernel_rfl) rfl rfl ?_;go_wp2_with fail;refine HW.out.mono ?_;rintro e w7 ⟨rfl,X7,MV7⟩;have d0:=X7.c0;have d1:=X7.c1;have I7:=Ld ((I.out.drewN 1).moved MV7 X7);clear X7 MV7
     dsimp only
     repeat (with_reducible refine wpQuiet_step (fun K hK=>?_);go_simp;with_reducible refine hK _ ?_;clear hK K)
     with_reducible refine wpQuiet_nil ?_
     intro nq
     all_goals
      go_wp2_with fail;go_meet
      case rel=>exact⟨rfl,I7.out.drewN nq⟩
   ·have hb:false=b:=by
     have:=HB.out;unfold q1k at this;rw[decide_eq_false hlt,Bool.false_and] at this;exact this
    subst hb;have hp:¬ (0:Int) < (j1:Int) - j:=by omega
    refine z3f (by kernel_rfl) (by kernel_rfl) (by kernel_rfl) (by kernel_rfl) (by kernel_rfl) rfl rfl ?_;go_wp2_with fail;refine HW.out.mono ?_;rintro e w7 ⟨rfl,X7,MV7⟩;have d0:=X7.c0;have d1:=X7.c1;have I7:=Ld ((I.out.drewN 1).moved MV7 X7);clear X7 MV7
    dsimp only
    repeat (with_reducible refine wpQuiet_step (fun K hK=>?_);go_simp;with_reducible refine hK _ ?_;clear hK K)
    with_reducible refine wpQuiet_nil ?_
    intro nq
    all_goals
     go_wp2_with fail;go_meet
     case rel=>exact⟨rfl,I7.out.drewN nq⟩
  case rest =>
   as_aux_lemma =>
   obtain⟨rfl,I1⟩:=hcut;clear I HW;have hlen:(Fd.V9 (s.data.toList.drop j)).length < (s.data.toList.drop j).length↔j < j1:=by
    rw[← HD1.out,List.length_drop,List.length_drop,bs_len];omega
   have HLEN:=Ld hlen;clear hlen
   cases b with
   | false =>
    have HE:Hid (Fd.z1u (s.data.toList.drop k)=.ok out (s.data.toList.drop j1)):=by
     show _=_;rw[HA.out]
     by_cases hlt:j < j1
     ·have hl:=HLEN.out.2 hlt
      by_cases hlt1:j1 < s.size
      ·have hdr:=X6 s j1 hlt1
       have hb:=HB.out;unfold q1k at hb;rw[hdr,decide_eq_true hlt,Bool.true_and] at hb;rw[hdr];exact Fd.j0j hl (by rw[← HD1.out,hdr]) hb
      ·have hn:s.data.toList.drop j1=[]:=List.drop_of_length_le (by rw[bs_len];omega)
       rw[hn];exact Fd.j0k hl (by rw[← HD1.out,hn])
     ·have hje:j=j1:=by omega
      subst hje;exact Fd.j3s (fun q=>hlt (HLEN.out.1 q))
    go_wp2_with fail;go_ret;exact .inr ⟨out,j1,_,HE.out,rfl,by omega,hjs1,by omega,I1.out⟩
   | true =>
    have hlt:j < j1:=by
     have:=HB.out;unfold q1k at this;rw[Bool.and_eq_true,decide_eq_true_iff] at this;exact this.1
    have HC:Hid (∃ c t,s.data.toList.drop j1=c :: t∧Fd.z1s true c=true):=by
     have:=HB.out;unfold q1k at this;rw[Bool.and_eq_true] at this
     cases hd:s.data.toList.drop j1 with
     | nil=>rw[hd] at this;exact absurd this.2 (by simp)
     | cons c t=>rw[hd] at this;exact⟨c,t,rfl,this.2⟩
    have HER:Hid (∀ er,Fd.z3p (s.data.toList.drop j1)=.er er→Fd.z1u (s.data.toList.drop k)=.er er):=by
     intro er he;obtain⟨c,t,h1,h2⟩:=HC.out;rw[HA.out];exact Fd.j3r (HLEN.out.2 hlt) (by rw[← HD1.out,h1]) h2 (by rw[← h1];exact he)
    have HOK:Hid (∀ (a:Mk.At) (r:List UInt8),Fd.z3p (s.data.toList.drop j1)=.ok a r→Fd.z1u (s.data.toList.drop k)=if Mk.J3 Fd.X0 [] (out++[a]) ≠ 0 then .er 6 else Fd.z3k r (out++[a])):=by
     intro a r he;obtain⟨c,t,h1,h2⟩:=HC.out;rw[HA.out]
     by_cases hc:Mk.J3 Fd.X0 [] (out++[a])=0
     ·rw[if_neg (fun q=>q hc)]
      exact Fd.q7f (HLEN.out.2 hlt) (by rw[← HD1.out,h1]) h2 (by rw[← h1];exact he) hc
     ·rw[if_pos hc]
      exact Fd.j0i (HLEN.out.2 hlt) (by rw[← HD1.out,h1]) h2 (by rw[← h1];exact he) hc
    clear HA HB HD1 HLEN HC;have HT:=Ld (q5a I1.out.x hjs1 (by omega));go_wp2_with fail;refine HT.out.mono ?_;rintro e w2 (⟨ht,rfl,hm⟩ | ⟨nm,j2,ht,rfl,hj2,hjs2,hx,hm,hit⟩)
    ·have AP:=Ld (I1.out.ap.trans hm.ap)
     have HE:=Ld (HER.out 1 (Fd.attrX_t ht));clear hm ht HT;go_wp2_with fail;exact⟨rfl,.inl ⟨1,HE.out,rfl,AP.out⟩⟩
    have HTI:=Ld ht;have HIT:=Ld hit;have I2:=Ld (I1.out.moved hm hx);have J2:=Ld (I2.out.new nm);clear hm hx hit HT I1 ht;obtain⟨P,hP⟩:∃ P,P=w2.heap.size:=⟨_,rfl⟩;rw[← hP] at J2;go_upto_region 4 with fail;rw[← hP];generalize w2.alloc (.cells #[.string (st nm),.string ⟨#[]⟩] 73)=w3 at J2 ⊢;clear hP I2;have HW3:=Ld (q75 J2.out hjs2 hs);go_wp2_with fail;refine HW3.out.mono ?_;rintro e w4 ⟨j3,hj3,hjs3,hd3,rfl,hJ4⟩;have J4:=Ld hJ4;have HD3:=Ld hd3;clear hJ4 hd3 HW3 J2;have HN4:=Ld (j08 [61] J4.out hjs3 hs);go_wp2_with fail;refine HN4.out.mono ?_;rintro e w5 (⟨hn,hjs4,rfl,hJ5⟩ | ⟨hn,rfl,hJ5⟩)
    case inr =>
     have AP:=Ld hJ5.i.ap;have HE:=Ld (HER.out 1 (Fd.attrX_n HTI.out (by rw[← HD3.out];exact hn)));clear hn hJ5 HN4;go_wp2_with fail;exact⟨rfl,.inl ⟨1,HE.out,rfl,AP.out⟩⟩
    have HAV:Hid (Fd.z3p (s.data.toList.drop j1)=match Fd.z2s (Fd.V9 (s.data.toList.drop (j3 + 1))) with | .er e=>.er e | .ok v y=>.ok ⟨nm,v⟩ y):=Fd.attrX_v HTI.out (by rw[← HD3.out];exact hn);have J5:=Ld hJ5;have J5:Hid (AtJ w w5 R s (j3 + 1) u3 out P nm []):=J5;clear hn hJ5 HN4 HTI HD3 J4;have hjs4:j3 + 1≤s.size:=hjs4;have HW5:=Ld (q75 J5.out hjs4 hs);go_wp2_with fail;refine HW5.out.mono ?_;rintro e w6 ⟨j5,hj5,hjs5,hd5,rfl,hJ6⟩;have J6:=Ld hJ6;rw[← hd5] at HAV;clear hJ6 hd5 HW5 J5;have HB6:=Ld (j3g [39] J6.out hjs5 hs);go_wp2_with fail;refine HB6.out.mono ?_;rintro e w7 ⟨rfl,hJ7⟩;have J7:=Ld hJ7;clear hJ7 HB6 J6;go_upto_if 44 with fail
    go_cut [5] (fun x wx=>x=.string (st [Fd.z5j (s.data.toList.drop j5)])∧w7=wx)
    case first =>
     as_aux_lemma =>
     obtain⟨bq,hbq⟩:∃ bq,Mg.pre [39] (s.data.toList.drop j5)=bq:=⟨_,rfl⟩;have HQ:Hid (Fd.z5j (s.data.toList.drop j5)=if bq=true then 39 else 34):=by show _=_;rw[Fd.z5j,hbq]
     rw[hbq];clear hbq
     cases bq with
     | true =>
      go_wp2_with fail;go_meet
      case rel=>exact⟨by rw[HQ.out];rfl,rfl⟩
     | false =>
      go_wp2_with fail;go_meet
      case rel=>exact⟨by rw[HQ.out];rfl,rfl⟩
    case rest =>
     as_aux_lemma =>
     obtain⟨rfl,hw⟩:=hcut;subst hw;have HVN:=Ld (fun er h=>Fd.valueX_n (s:=s.data.toList.drop j5) (e:=er) h);have HVT:=Ld (fun r er h h2=>Fd.valueX_t (s:=s.data.toList.drop j5) (u:=()) (r:=r) (e:=er) h h2);have HVC:=Ld (fun r v z h h2=>Fd.valueX_c (s:=s.data.toList.drop j5) (u:=()) (r:=r) (v:=v) (z:=z) h h2);generalize Fd.z5j (s.data.toList.drop j5)=q at HVN HVT HVC ⊢;have HN7:=Ld (j08 [q] J7.out hjs5 hs);go_wp2_with fail;refine HN7.out.mono ?_;rintro e w8 (⟨hn,hjs6,rfl,hJ8⟩ | ⟨hn,rfl,hJ8⟩)
     case inr =>
      have AP:=Ld hJ8.i.ap;have HE:=Ld (HER.out 1 (by rw[HAV.out,HVN.out 1 hn]));clear hn hJ8 HN7;go_wp2_with fail;exact⟨rfl,.inl ⟨1,HE.out,rfl,AP.out⟩⟩
     have J8:=Ld hJ8;have HN:=Ld hn;have hjs6:j5 + 1≤s.size:=hjs6;have J8:Hid (AtJ w w8 R s (j5 + 1) u3 out P nm []):=J8;have HN:Hid (Fd.z05 [q] (s.data.toList.drop j5)=.ok () (s.data.toList.drop (j5 + 1))):=HN;clear hn hJ8 HN7 J7;have HT8:=Ld (xr_toA [q] (by simp) (by simp) HG.out hR J8.out hjs6 hs);go_wp2_with fail;refine HT8.out.mono ?_;rintro e w9 (⟨ht,rfl,hJ9⟩ | ⟨a,j7,ht,rfl,hal,hj7,hjs7,hJ9⟩)
     ·have AP:=Ld hJ9.i.ap
      have HE:=Ld (HER.out 1 (by rw[HAV.out,HVT.out _ 1 HN.out ht]));clear ht hJ9 HT8;go_wp2_with fail;exact⟨rfl,.inl ⟨1,HE.out,rfl,AP.out⟩⟩
     have HV:Hid (Fd.z2s (s.data.toList.drop j5)=if a.contains 60 then .er 1 else if (Mk.take a).2 then .ok (Mk.take a).1 (s.data.toList.drop j7) else .er 1):=HVC.out _ _ _ HN.out ht;have J9:=Ld hJ9;clear ht hJ9 HT8 J8 HN HVN HVT HVC;have hcc:∀ W:World,Gl W→Calls prog 128 #[.string (st a),.string (st [60])] W fun e w'=>e=.returned (.bool (a.contains 60))∧w'=W:=by
      intro W hW;obtain⟨m,hm⟩:=hW.ml;have:=Tryz.strings_Contains (st a) (st [60]) m W (by rw[y9];omega) hm;rw[z0b,z0b,j0w] at this;exact this
     have HCC:=Ld (hcc w9 (J9.out.i.gl HG.out hR));clear hcc;obtain⟨bc,hbc⟩:∃ bc,a.contains 60=bc:=⟨_,rfl⟩;rw[hbc] at HCC HV;clear hbc
     cases bc with
     | true =>
      have HE:=Ld (HER.out 1 (by rw[HAV.out,HV.out];rfl));go_wp2_with fail;refine HCC.out.mono ?_;rintro e w10 ⟨rfl,hw10⟩;subst w10;go_wp2_with fail;refine(z3g 1 _).mono ?_;rintro e w10 ⟨rfl,hw10⟩;subst w10;go_wp2_with fail;exact⟨rfl,.inl ⟨1,HE.out,rfl,J9.out.i.ap⟩⟩
     | false =>
      go_wp2_with fail;refine HCC.out.mono ?_;rintro e w10 ⟨rfl,hw10⟩;subst w10;have HTO:=Ld (xm_toldA a (by omega) HG.out hR J9.out);clear HCC;go_wp2_with fail;refine HTO.out.mono ?_;rintro e w10 ⟨hJ10,⟨hk2,rfl⟩ | ⟨hk2,rfl⟩⟩
      case inr =>
       have AP:=Ld hJ10.i.ap;have HE:=Ld (HER.out 1 (by rw[HAV.out,HV.out,hk2];rfl));clear hk2 hJ10 HTO;go_wp2_with fail;exact⟨rfl,.inl ⟨1,HE.out,rfl,AP.out⟩⟩
      have HAX:Hid (Fd.z3p (s.data.toList.drop j1)=.ok ⟨nm,(Mk.take a).1⟩ (s.data.toList.drop j7)):=by show _=_;rw[HAV.out,HV.out,hk2];rfl
      have J10:=Ld hJ10;have HOK2:=Ld (HOK.out _ _ HAX.out);have hbk:=Fd.q2j HAX.out;rw[List.length_drop,List.length_drop,bs_len] at hbk;generalize (Mk.take a).1=va at J10 HOK2 hbk ⊢;have hbk2:Mk.Fo.atB (out++[⟨nm,va⟩])≤5 * j7:=by
       rw[Mk.q3v];have hbk':1 + nm.length + va.length + 5 * (s.size - j7)≤5 * (s.size - j1):=hbk;show Mk.Fo.atB out + (1 + nm.length + va.length)≤_;omega
      have hol:out.length + 1≤5 * j7:=by
       have:=Mk.z1l (out++[(⟨nm,va⟩:Mk.At)]);rw[List.length_append,List.length_singleton] at this;omega
      clear hk2 hJ10 HTO HAX HOK HER HAV HV J9 hbk;have J11:=Ld (J10.out.set_ va);have p1:=Blk.frozen J10.out.pb 1;have p2:w10.cell? ⟨P,1,none⟩=some (.string ⟨#[]⟩):=Blk.cell J10.out.pb 1;go_upto_region 15 with fail;generalize w10.setCell ⟨P,1,none⟩ (.string (st va))=w11 at J11 ⊢;clear p1 p2 J10;have d0:w11.cell? ⟨P,0,none⟩=some (.string (st nm)):=Blk.cell J11.out.pb 0;have d1:w11.cell? ⟨P,1,none⟩=some (.string (st va)):=Blk.cell J11.out.pb 1;have ow:=Ld ((J11.out.below ((Below.refl _ w11).alloc (Lr) (.cells #[.string (st nm),.string (st va)] 73))).i.ow);have hbase:w.heap.size≤(w11.alloc (.cells #[.string (st nm),.string (st va)] 73)).heap.size:=Nat.le_trans J11.out.i.ap.size (by simp);obtain⟨i0,hi,hz0,hz1,hz2⟩:=info_parts Tryz.infoAttr;go_wp2_with (at_builtin;refine wpList_append_own _ rfl _ _ 36 rfl w.heap.size 73 i0 (.agg #[.string ⟨#[]⟩,.string ⟨#[]⟩]) 2 32 underlying36 hi hz0 hz1 hz2 rfl (by decide) _ _ _ rfl ow.out ⟨w11.heap.size,0,none⟩ 1 1 [.string (st nm),.string (st va)] rfl rfl (Y9 _ _ _) (by intro u hu;simp at hu;rcases hu with rfl | rfl <;> rfl) (by unfold maxLen;omega) (by omega) hbase ?_);intro v' w12 hown' hgrow _;have I12:=Ld (J11.out.pushed hown' hgrow);clear hown' hgrow J11 ow d0 d1 hbase;have hat:=q5x (out++[⟨nm,va⟩]) v' (fun b=>w.heap.size≤b∧b < w12.heap.size) w12 (AtsV.of_own I12.out.ow (fun g hg'=>I12.out.ow.lt g hg')) (fun b hb=>hb.2) (by omega);generalize Mk.J3 Fd.X0 [] (out++[⟨nm,va⟩])=ck at hat HOK2;have HAT:=Ld hat
      clear hat
      go_wp2_with fail;refine HAT.out.mono ?_;rintro e w13 ⟨rfl,hb13⟩;have I13:=Ld (I12.out.below hb13);clear hb13 HAT I12
      by_cases hck:ck=0
      ·subst hck
       rw[if_neg (fun q=>q rfl)] at HOK2;obtain⟨g',rfl⟩:∃ g',gk=g' + 1:=⟨gk - 1,by omega⟩;go_wp2_with fail
       go_roundg g'
       case measure=>omega
       case rel=>exact⟨j7,_,by omega,hjs7,by omega,hbk2,HOK2,I13⟩
      ·have hcb:(ck == 0)=false:=beq_eq_false_iff_ne.2 hck
       rw[if_pos hck] at HOK2;clear hck;go_wp2_with fail;refine(z3g 6 _).mono ?_;rintro e w14 ⟨rfl,hw14⟩;subst w14;go_wp2_with fail;exact⟨rfl,.inl ⟨6,HOK2.out,rfl,I13.out.ap⟩⟩
end
end Go.Proofs.YtagleefekmdldaaGreatDoor
