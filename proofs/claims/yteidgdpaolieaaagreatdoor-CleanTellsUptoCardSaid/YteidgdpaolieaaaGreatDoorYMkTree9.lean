/- Contract of the program's close of a tree's builder: all that are open but so many. Condition: at most 1099511627776 nodes, attributes and letters together. -/
import Derived.Test.YteidgdpaolieaaaGreatDoorYRfBo
import Derived.Test.YteidgdpaolieaaaGreatDoorYRfK
import Derived.Test.YteidgdpaolieaaaGreatDoorYMkTok8
set_option linter.unusedVariables false
set_option linter.unusedSimpArgs false
namespace Go.Proofs.YteidgdpaolieaaaGreatDoor
open Go.RowKit
section
variable {w w2 : World} {B P : Nat} {K : Nat→Prop} {L : List Mk.Fo} {f f' : Mk.Fo} {O : List (Mk.Bs × List Mk.At)} {n : List UInt8} {a : List Mk.At} {vn vo : Value} {ns xo : List Value}
theorem own_take {size m nn cap g : Nat} {e : TypeId} {xs : List Value} (h : w.ownsRow B e size (.slice (some ⟨g,0,none⟩) nn cap) nn xs) (hm : m≤nn) : w.ownsRow B e size (.slice (some ⟨g,0,none⟩) m cap) m (xs.take (m * size)):=by
 have hle : m * size≤nn * size:=Nat.mul_le_mul_right _ hm
 refine ⟨by rw [List.length_take,h.1];omega,?_⟩
 rcases h.2 with ⟨hv,_⟩ | ⟨g',cap',cur,hv,hb,hh,hnc,hcm,hcs,ht⟩
 ·cases hv
 ·injection hv with e1 e2 e3
  injection e1 with e1
  injection e1 with e1
  subst e1;subst e3
  refine .inr ⟨g,cap,cur,rfl,hb,hh,by omega,hcm,hcs,?_⟩
  rw [← ht,List.take_take,Nat.min_eq_left hle]
def KU (K : Nat→Prop) (v : Value) (b : Nat) : Prop:=K b ∨ v.ownBlock = some b
theorem BldV.popped (h : BldV w B P K (L++[f',f]) (O++[(n,a)]) vn vo ns xo) : ∃ gn capn go capo aoa capa ao cap xsf ys,vn = .slice (some ⟨gn,0,none⟩) (L.length + 2) capn∧vo = .slice (some ⟨go,0,none⟩) (O.length + 1) capo∧L.length + 2≤capn∧O.length + 1≤capo ∧
  w.cell? ⟨go,O.length * 4,none⟩ = some (.string (st n))∧w.cell? ⟨go,O.length * 4 + 1,none⟩ = some (.slice aoa a.length capa)∧w.cell? ⟨go,O.length * 4 + 2,none⟩ = some (.string (st []))∧w.cell? ⟨go,O.length * 4 + 3,none⟩ = some (.slice none 0 0)∧w.cell? ⟨gn,L.length + 1,none⟩ = some (.slice ao f.len cap)∧go ≠ P∧gn ≠ P∧go < w.heap.size∧gn < w.heap.size ∧
  ∀ w2 : World,Blk w2 P 107 #[.slice (some ⟨gn,0,none⟩) (L.length + 1) capn,.slice (some ⟨go,0,none⟩) O.length capo]→(∀ b,b < w.heap.size→b ≠ P→w2.heap[b]? = w.heap[b]?)→w.heap.size≤w2.heap.size →
   BldV w2 B P (KU K (.slice ao f.len cap)) (L++[f']) O (.slice (some ⟨gn,0,none⟩) (L.length + 1) capn) (.slice (some ⟨go,0,none⟩) O.length capo) (ns.take (L.length + 1)) ys∧AtsV w2 (KU K (.slice ao f.len cap)) (.slice aoa a.length capa) a∧RowAt w2 (KU K (.slice ao f.len cap)) ao xsf∧FCells w2 (KU K (.slice ao f.len cap)) f xsf∧f.len≤maxLen:=by
 have hnl:=h.nlen
 have hrn:=h.rn
 have hro:=h.ro
 simp only [List.length_append,List.length_cons,List.length_nil] at hnl hrn hro
 have e0 : ∀ g j,(⟨g,0,none⟩ : Addr).add j = ⟨g,j,none⟩:=by intro g j;unfold Addr.add;split <;> simp_all
 obtain ⟨va,ys,hxo,hva,hoc⟩:=h.oc.last
 obtain ⟨aoa,capa,hva1,hva2⟩:=id hva
 subst hva1
 have hyl:=hoc.length
 rcases hrn.2 with ⟨_,q⟩ | ⟨gn,capn,curn,hvn,hbn,hhn,hncn,hcmn,hcsn,htn⟩
 ·omega
 rcases hro.2 with ⟨_,q⟩ | ⟨go,capo,curo,hvo,hbo,hho,hnco,hcmo,hcso,hto⟩
 ·omega
 have hvn : vn = .slice (some ⟨gn,0,none⟩) (L.length + 2) capn:=hvn
 have hvo : vo = .slice (some ⟨go,0,none⟩) (O.length + 1) capo:=hvo
 subst hvn
 subst hvo
 have kn : (Value.slice (some ⟨gn,0,none⟩) (L.length + 2) capn).ownBlock = some gn:=rfl
 have ko : (Value.slice (some ⟨go,0,none⟩) (O.length + 1) capo).ownBlock = some go:=rfl
 have hcn:=hrn.cells (g:=gn) rfl
 have hco:=hro.cells (g:=go) rfl
 have hi : L.length + 1 < ns.length:=by omega
 have hv1 : ns[L.length + 1]? = some ns[L.length + 1]:=List.getElem?_eq_getElem hi
 have hf1 : (L++[f',f])[L.length + 1]? = some f:=by rw [List.getElem?_append_right (by omega)];simp
 obtain ⟨xsf,hof⟩:=h.fo _ f _ hf1 hv1
 obtain ⟨ao,cap,hu⟩:=own_slice hof.own
 rw [hu] at hv1 hof
 have hfl : f.len≤maxLen:=by
  obtain ⟨_,_,_,_,_,q⟩:=RowAt.of_own (K:=fun _=>True) hof.own (fun _ _=>trivial)
  exact q
 have hd:=h.df (L.length + 1) (.slice ao f.len cap)
 have ho : ∀ i u,[Value.string (st n),.slice aoa a.length capa,.string (st []),.slice none 0 0][i]? = some u→w.cell? ⟨go,O.length * 4 + i,none⟩ = some u:=by
  intro i u q
  have:=hco (O.length * 4 + i) u (by rw [hxo,List.getElem?_append_right (by omega),hyl];simpa using q)
  rwa [e0] at this
 have hgnP:=(h.dn gn kn).1
 have hgoP:=(h.do_ go ko).1
 refine ⟨gn,capn,go,capo,aoa,capa,ao,cap,xsf,ys,rfl,rfl,by omega,by omega,ho 0 _ rfl,ho 1 _ rfl,ho 2 _ rfl,ho 3 _ rfl,by have:=hcn _ _ hv1;rwa [e0] at this,hgoP,hgnP,(hro.lt go ko).2,(hrn.lt gn kn).2,?_⟩
 intro w2 hP hb hs
 have hKb : ∀ b,K b→w2.heap[b]? = w.heap[b]?:=fun b q=>hb b (h.kle b q).2 (fun e=>h.nK (e ▸ q))
 have kp : ∀ b,K b→KU K (.slice ao f.len cap) b∧w2.heap[b]? = w.heap[b]?:=fun b q=>⟨.inl q,hKb b q⟩
 have hvb : ∀ g,(Value.slice ao f.len cap).ownBlock = some g→w2.heap[g]? = w.heap[g]?:=fun g e=>hb g (hof.own.lt g e).2 (hd g hv1 e).1
 have htk : ∀ i : Nat,i < L.length + 1→(ns.take (L.length + 1))[i]? = ns[i]?:=fun i q=>by rw [List.getElem?_take];simp [q]
 have htk2 : ∀ (i : Nat) (v : Value),(ns.take (L.length + 1))[i]? = some v→i < L.length + 1∧ns[i]? = some v:=by
  intro i v q
  rw [List.getElem?_take] at q
  split at q
  ·exact ⟨by assumption,q⟩
  ·cases q
 refine ⟨⟨hP,h.hP,?_,?_,?_,?_,?_,?_,?_,?_,?_⟩,hva.frame kp,?_,hof.cells.frame kp,hfl⟩
 ·rintro (q | q)
  ·exact h.nK q
  ·exact (hd P hv1 q).1 rfl
 ·rintro b (q | q)
  ·exact ⟨(h.kle b q).1,Nat.lt_of_lt_of_le (h.kle b q).2 hs⟩
  ·exact ⟨(hof.own.lt b q).1,Nat.lt_of_lt_of_le (hof.own.lt b q).2 hs⟩
 ·have:=own_take hrn (m:=L.length + 1) (by omega)
  rw [Nat.mul_one] at this
  rw [List.length_append]
  exact own_keep this (fun g e=>by injection e with e;rw [← e];exact hb gn (hrn.lt gn kn).2 hgnP)
 ·have:=own_take hro (m:=O.length) (by omega)
  rw [hxo,List.take_left' hyl] at this
  exact own_keep this (fun g e=>by injection e with e;rw [← e];exact hb go (hro.lt go ko).2 hgoP)
 ·exact hoc.frame kp
 ·intro i f1 v1 q1 q2
  obtain ⟨hi1,q2⟩:=htk2 i v1 q2
  have q3 : (L++[f',f])[i]? = some f1:=by
   rw [show L++[f',f] = (L++[f'])++[f] by simp,List.getElem?_append_left (by simp;omega)];exact q1
  obtain ⟨xs1,o⟩:=h.fo i f1 v1 q3 q2
  have o1:=o.frame hs (fun b b1 b2=>by
   rcases b2 with b2 | b2
   ·exact hKb b b2
   ·exact hb b b1 (h.df i v1 b q2 b2).1)
  refine ⟨xs1,o1.own,o1.cells.frame (fun b q=>⟨.inl q,rfl⟩),?_,?_⟩
  ·rintro g e (q | q)
   ·exact o1.ne g e q
   ·have:=(h.df i v1 g q2 e).2.2.2 _ _ hv1 q
    omega
  ·rintro b (q | q)
   ·exact o1.le b q
   ·exact Nat.lt_of_lt_of_le (hof.own.lt b q).2 hs
 ·intro g e
  have e : some gn = some g:=e
  injection e with e
  subst e
  refine ⟨hgnP,?_⟩
  rintro (q | q)
  ·exact (h.dn gn kn).2 q
  ·exact (hd gn hv1 q).2.1 kn
 ·intro g e
  have e : some go = some g:=e
  injection e with e
  subst e
  refine ⟨hgoP,?_,fun q=>(h.do_ go ko).2.2 q⟩
  rintro (q | q)
  ·exact (h.do_ go ko).2.1 q
  ·exact (hd go hv1 q).2.2.1 ko
 ·intro i v g q1 q2
  obtain ⟨hi1,q1⟩:=htk2 i v q1
  obtain ⟨a1,a2,a3,a4⟩:=h.df i v g q1 q2
  exact ⟨a1,a2,a3,fun j u q3 q4=>a4 j u (htk2 j u q3).2 q4⟩
 ·obtain ⟨ao',cap',hq,hr,_⟩:=RowAt.of_own (K:=fun b=>(Value.slice ao f.len cap).ownBlock = some b) hof.own (fun g e=>e)
  injection hq with hq _ _
  subst hq
  exact hr.frame fun b q=>⟨.inr q,hvb b q⟩
end
/-- a builder at some values. -/
def BldS (w : World) (B P : Nat) (K : Nat→Prop) (b : Mk.Bld) : Prop:=∃ vn vo ns xo,BldV w B P K b.fos b.ops vn vo ns xo
def BldR (B P : Nat) (K : Nat→Prop) (b : Mk.Bld) (w w' : World) : Prop:=∃ K',(∀ x,K x→K' x)∧BldS w' B P K' b∧Ap (fun x=>B≤x∧¬ K x) w w'
theorem BldR.step {B P : Nat} {K K' : Nat→Prop} {b : Mk.Bld} {w w1 w2 : World} (hK : ∀ x,K x→K' x) (ha : Ap (fun x=>B≤x∧¬ K x) w w1) (h : BldR B P K' b w1 w2) : BldR B P K b w w2:=by
 obtain ⟨K2,h1,h2,h3⟩:=h
 exact ⟨K2,fun x q=>h1 x (hK x q),h2,ha.trans (h3.sub fun x q=>⟨q.1,fun e=>q.2 (hK x e)⟩)⟩
theorem BldR.of {B P : Nat} {K : Nat→Prop} {b : Mk.Bld} {w w1 : World} (h : BldS w1 B P K b) (ha : Ap (fun x=>B≤x∧¬ K x) w w1) : BldR B P K b w w1:=⟨K,fun _ q=>q,h,ha⟩
theorem BldS.below {B P : Nat} {K : Nat→Prop} {b : Mk.Bld} {w w1 : World} (h : BldS w B P K b) (hb : Below w.heap.size w w1) : BldS w1 B P K b:=by
 obtain ⟨vn,vo,ns,xo,h⟩:=h
 exact ⟨_,_,_,_,h.below hb⟩
theorem frozen_of_block {w w' : World} {g : Nat} (h : w'.heap[g]? = w.heap[g]?) (o : Nat) : w'.frozen? ⟨g,o,none⟩ = w.frozen? ⟨g,o,none⟩:=by
 simp [World.frozen?,h]
def openOf (w : World) (P : Nat) : Nat:=match w.cell? ⟨P,1,none⟩ with | some (.slice _ n _)=>n | _=>0
set_option maxHeartbeats 8000000 in
set_option maxRecDepth 100000 in
theorem tr_close {w : World} {B P : Nat} {K : Nat→Prop} (b : Mk.Bld) (h : BldS w B P K b) (many : Nat) (hmany : many≤1048576) (hbk : b.bulk≤549755813888) (hl : b.ops.length≤1048576) :
  Calls Tryz.prog 89 #[.pointer (some ⟨P,0,none⟩),.int .i64 many] w fun e w'=>e = .returned (.tuple #[])∧BldR B P K (b.close many) w w':=by
 have hst : ∀ l : List UInt8,(st l).toList = l:=fun l=>Lib.toList_data _
 have H:=Lib.hid h
 clear h
 go_enter Tryz.func89,Tryz.ntmps89
 go_wp2_with fail
 go_loopw [] (fun wr=>∃ c : Mk.Bld,Hid (BldR B P K c w wr∧c.close many = b.close many)∧c.bulk≤549755813888∧c.ops.length≤1048576) (fun wr=>openOf wr P)
 case atStart=>exact ⟨b,⟨BldR.of H.out (Ap.refl _ _),rfl⟩,hbk,hl⟩
 case round =>
  obtain ⟨c,HR,hcb,hcl⟩:=hrel
  obtain ⟨⟨K1,hK1,⟨vn,vo,ns,xo,hb⟩,hap⟩,hcl2⟩:=HR.out
  clear HR
  by_cases hlt : many < c.ops.length
  ·obtain ⟨O,⟨n,a⟩,hO⟩ : ∃ O o,c.ops = O++[o]:=by
    rcases List.eq_nil_or_concat c.ops with q | ⟨O,o,q⟩
    ·rw [q] at hlt;simp at hlt
    ·exact ⟨O,o,by simpa using q⟩
   obtain ⟨L,f',f,hL,hL2,hO2⟩:=c.pop_fos O n a hO
   have hcn : c.close many = (c.pop).close many:=by
    show Mk.Bld.closeN _ c = Mk.Bld.closeN _ c.pop
    have h1:=c.ops_open
    have h2:=c.pop.ops_open
    have h3:=c.pop_len
    rw [show c.open_.length - many = (c.pop.open_.length - many) + 1 by omega,Mk.Bld.closeN_one]
   have hpl:=c.pop_len
   have hpb:=c.pop_bulk
   have hfl:=c.fos_len
   rw [hO,hL] at hfl
   have hbb : f'.bulk + (1 + n.length + ([] : List UInt8).length + Mk.Fo.atB a + f.bulk)≤1099511627776:=by
    have : c.bulk = Mk.Bld.foB c.fos + Mk.Bld.opB c.ops:=rfl
    rw [hL,hO,show L++[f',f] = L++[f']++[f] by simp,Mk.Bld.foB_app,Mk.Bld.foB_app,Mk.Bld.foB_one,Mk.Bld.foB_one,Mk.Bld.opB_app,Mk.Bld.opB_one] at this
    simp only [List.length_nil]
    omega
   rw [hL,hO] at hb
   obtain ⟨gn,capn,go,capo,aoa,capa,ao,cap,xsf,ys,hvn,hvo,hcpn,hcpo,k0,k1,k2,k3,kn,hgoP,hgnP,hgol,hgnl,hpop⟩:=hb.popped
   subst hvn
   subst hvo
   have hLO : L.length = O.length:=by simp at hfl;omega
   have hPl:=Blk.lt hb.blk
   have c0 : wr.cell? ⟨P,0,none⟩ = some (.slice (some ⟨gn,0,none⟩) (L.length + 2) capn):=Blk.cell hb.blk 0
   have c1 : wr.cell? ⟨P,1,none⟩ = some (.slice (some ⟨go,0,none⟩) (O.length + 1) capo):=Blk.cell hb.blk 1
   have g0 : wr.frozen? ⟨P,0,none⟩ = false:=Blk.frozen hb.blk 0
   have g1 : wr.frozen? ⟨P,1,none⟩ = false:=Blk.frozen hb.blk 1
   have HPOP:=Lib.hid hpop
   have HB:=Lib.hid hb
   have HAP:=Lib.hid hap
   have hcl0 : c.ops.length = O.length + 1:=by rw [hO];simp
   rw [hO] at hlt hcl
   simp only [List.length_append,List.length_singleton] at hlt hcl
   have hlt' : (many : Int) < (O.length : Int) + 1:=by omega
   rw [hLO] at c0 kn
   have HL2:=Lib.hid hL2
   have HO2:=Lib.hid hO2
   have HOW : Hid (openOf wr P = O.length + 1):=by
    show _ = _
    unfold openOf
    rw [c1]
   clear hpop hb hap hfl hO hL hL2 hO2
   go_upto_region 4 with fail
   have PB:=Lib.hid (Blk.new wr 52 #[.string (st n),.slice aoa a.length capa,.string (st []),.slice ao f.len cap])
   have hAL:=(Below.refl wr.heap.size wr).alloc (Nat.le_refl _) (.cells #[.string (st n),.slice aoa a.length capa,.string (st []),.slice ao f.len cap] 52)
   have c0':=(hAL.cell (p:=⟨P,0,none⟩) hPl).trans c0
   have c1':=(hAL.cell (p:=⟨P,1,none⟩) hPl).trans c1
   have HAL:=Lib.hid hAL
   have g0' : (wr.alloc (.cells #[.string (st n),.slice aoa a.length capa,.string (st []),.slice ao f.len cap] 52)).frozen? ⟨P,0,none⟩ = false:=by rw [← g0];exact frozen_of_block (hAL.block P hPl) 0
   have g1' : (wr.alloc (.cells #[.string (st n),.slice aoa a.length capa,.string (st []),.slice ao f.len cap] 52)).frozen? ⟨P,1,none⟩ = false:=by rw [← g1];exact frozen_of_block (hAL.block P hPl) 1
   have PP:=Lib.hid (show Blk (wr.alloc (.cells #[.string (st n),.slice aoa a.length capa,.string (st []),.slice ao f.len cap] 52)) P 107 _ from (hAL.block P hPl).trans HB.out.blk)
   clear c0 c1 g0 g1 k0 k1 k2 k3 kn hAL
   have hs1 : (O.length : Int)≤capo:=by omega
   have hs2 : (O.length : Int) + 1≤capn:=by omega
   have hs3 : (0 : Int)≤(O.length : Int) + 1:=by omega
   generalize (wr.alloc (.cells #[.string (st n),.slice aoa a.length capa,.string (st []),.slice ao f.len cap] 52)) = w1 at PB HAL c0' c1' g0' g1' PP ⊢
   go_region
   have hw2 : ∀ b,b ≠ P→((w1.setCell ⟨P,1,none⟩ (.slice (some ⟨go,0,none⟩) O.length capo)).setCell ⟨P,0,none⟩ (.slice (some ⟨gn,0,none⟩) (O.length + 1) capn)).drew.heap[b]? = w1.heap[b]?:=fun b q=>(Below.heap_setCell _ ⟨P,0,none⟩ _ b q).trans (Below.heap_setCell w1 ⟨P,1,none⟩ _ b q)
   have hB2 : Blk ((w1.setCell ⟨P,1,none⟩ (.slice (some ⟨go,0,none⟩) O.length capo)).setCell ⟨P,0,none⟩ (.slice (some ⟨gn,0,none⟩) (O.length + 1) capn)).drew P 107 #[.slice (some ⟨gn,0,none⟩) (O.length + 1) capn,.slice (some ⟨go,0,none⟩) O.length capo]:=Blk.drew (Blk.set_ (Blk.set_ PP.out 1 _) 0 _)
   have hs2 : w1.heap.size≤((w1.setCell ⟨P,1,none⟩ (.slice (some ⟨go,0,none⟩) O.length capo)).setCell ⟨P,0,none⟩ (.slice (some ⟨gn,0,none⟩) (O.length + 1) capn)).drew.heap.size:=by simp [World.setCell]
   have ha2 : Ap (fun x=>B≤x∧¬ K1 x) w1 ((w1.setCell ⟨P,1,none⟩ (.slice (some ⟨go,0,none⟩) O.length capo)).setCell ⟨P,0,none⟩ (.slice (some ⟨gn,0,none⟩) (O.length + 1) capn)).drew:=(((Ap.refl _ w1).setCell (p:=⟨P,1,none⟩) ⟨HB.out.hP,HB.out.nK⟩ _).setCell (p:=⟨P,0,none⟩) ⟨HB.out.hP,HB.out.nK⟩ _).drew
   have hPN : wr.heap.size ≠ P:=by omega
   have HPB2:=Lib.hid (show Blk _ wr.heap.size 52 _ from (hw2 wr.heap.size hPN).trans PB.out)
   generalize ((w1.setCell ⟨P,1,none⟩ (.slice (some ⟨go,0,none⟩) O.length capo)).setCell ⟨P,0,none⟩ (.slice (some ⟨gn,0,none⟩) (O.length + 1) capn)).drew = w2 at hw2 hB2 hs2 ha2 HPB2 ⊢
   rw [show O.length + 1 = L.length + 1 by omega] at hB2
   obtain ⟨hb2,hva2,hra2,hfc2,hfl2⟩:=HPOP.out w2 hB2 (fun b q1 q2=>(hw2 b q2).trans (HAL.out.block b q1)) (Nat.le_trans HAL.out.size hs2)
   have HBULK:=Lib.hid hbb
   have hput:=tr_put hb2 n a [] f _ hva2 ao cap xsf hra2 hfc2 hfl2 hbb (by omega)
   have HPUT:=Lib.hid hput
   have p0 : w2.cell? ⟨wr.heap.size,0,none⟩ = some (.string (st n)):=Blk.cell HPB2.out 0
   have p1 : w2.cell? ⟨wr.heap.size,1,none⟩ = some (.slice aoa a.length capa):=Blk.cell HPB2.out 1
   have p2 : w2.cell? ⟨wr.heap.size,2,none⟩ = some (.string (st [])):=Blk.cell HPB2.out 2
   have p3 : w2.cell? ⟨wr.heap.size,3,none⟩ = some (.slice ao f.len cap):=Blk.cell HPB2.out 3
   have HA2:=Lib.hid (((HAP.out.trans (Ap.of_below HAL.out)).trans (ha2.sub fun x q=>⟨q.1,fun e=>q.2 (hK1 x e)⟩)))
   clear hput hb2 hva2 hra2 hfc2 hfl2 hB2 hw2 ha2 hs2 c0' c1' g0' g1' PP PB HPOP hbb
   go_wp2_with fail
   refine HPUT.out.mono ?_
   rintro e w3 ⟨rfl,⟨ns3,hb3⟩,ha3⟩
   have HR3 : Hid (BldR B P K c.pop w w3):=by
    have hbs : BldS w3 B P (KU K1 (.slice ao f.len cap)) c.pop:=by
     unfold BldS
     rw [HL2.out,HO2.out]
     exact ⟨_,_,_,_,hb3⟩
    exact ⟨KU K1 (.slice ao f.len cap),fun x q=>.inl (hK1 x q),hbs,HA2.out.trans (ha3.sub fun x q=>⟨q.1,fun e=>q.2 (.inl (hK1 x e))⟩)⟩
   have HO3 : Hid (openOf w3 P = O.length):=by
    show _ = _
    unfold openOf
    rw [show w3.cell? ⟨P,1,none⟩ = _ from Blk.cell hb3.blk 1]
    rfl
   clear hb3 ha3 HPUT p0 p1 p2 p3 HA2
   go_wp2_with fail
   go_roundw
   case rel=>exact ⟨c.pop,⟨HR3.out,by rw [← hcn];exact hcl2⟩,by omega,by omega⟩
   case measure=>have h1:=HO3.out;have h2:=HOW.out;rw [h1,h2];omega
  ·obtain ⟨aoo,capo,hvo⟩:=own_slice hb.ro
   subst hvo
   have c1 : wr.cell? ⟨P,1,none⟩ = some (.slice aoo c.ops.length capo):=Blk.cell hb.blk 1
   have hce : c.close many = c:=by
    show Mk.Bld.closeN _ c = c
    have h1:=c.ops_open
    rw [show c.open_.length - many = 0 by omega];rfl
   have HFIN : Hid (BldR B P K (b.close many) w wr):=⟨K1,hK1,⟨_,_,_,_,by rw [← hcl2,hce];exact hb⟩,hap⟩
   clear hb hap hcl2 hce hK1
   go_wp2_with fail
   go_end0
   exact ⟨rfl,HFIN.out⟩
end Go.Proofs.YteidgdpaolieaaaGreatDoor

/- Contract of the program's Check: what is wrong with a tree. Condition: at most 33554432 nodes, attributes and letters. -/
namespace Go.Proofs.YteidgdpaolieaaaGreatDoor
open Go.RowKit
set_option maxHeartbeats 1000000 in
theorem tr_Check (f : Mk.Fo) (v : Value) (K : Nat→Prop) (w : World) (hf : f.bulk≤33554432) (hv : FoV w K v f) (hK : ∀ b,K b→b < w.heap.size) :
  Calls Tryz.prog 20 #[v] w fun e w'=>e = .returned (.int .i64 (Mk.checkT f))∧Below w.heap.size w w':=by
 have HS:=Lib.hid (tr_Size (f.bulk + 1) f 8 v K w (Nat.lt_succ_self _) hf (Nat.le_refl _) hv hK)
 have HV:=Lib.hid hv
 obtain ⟨ao,cap,xs,hv1,_⟩:=hv
 subst hv1
 have hsb:=Mk.sizeF_bulk 8 f
 have hc : Mk.checkT f = if 3000 < (Mk.sizeF 8 f).1 ∨ 8 < (Mk.sizeF 8 f).2 then 2 else Mk.checkF f [] false:=rfl
 obtain ⟨y,hy⟩ : ∃ y,Mk.sizeF 8 f = y:=⟨_,rfl⟩
 rw [hy] at HS hc hsb
 obtain ⟨y1,y2⟩:=y
 simp only at HS hc hsb
 have HC:=Lib.hid hc
 clear hc hy
 have hst0 : (3000 : Int) = 3000:=rfl
 clear hst0
 go_enter Tryz.func20,Tryz.ntmps20
 go_wp2_with fail
 refine HS.out.mono ?_
 rintro e w1 ⟨rfl,hb1⟩
 have L1:=Lib.hid hb1
 clear HS hb1
 by_cases h1 : 3000 < y1
 ·have h1' : (3000 : Int) < y1:=by omega
  go_wp2_with fail
  all_goals (go_ret;exact ⟨ret_int (by rw [HC.out,if_pos (.inl h1)]),L1.out⟩)
 ·have h1' : ¬ (3000 : Int) < y1:=by omega
  by_cases h2 : 8 < y2
  ·have h2' : (8 : Int) < y2:=by omega
   go_wp2_with fail
   all_goals (go_ret;exact ⟨ret_int (by rw [HC.out,if_pos (.inr h2)]),L1.out⟩)
  ·have h2' : ¬ (8 : Int) < y2:=by omega
   have HK:=Lib.hid (tr_check (f.bulk + 1) f [] (.slice ao f.len cap) (.slice none 0 0) K w1 (Nat.lt_succ_self _) (by simpa using hf) (HV.out.below hK L1.out) (StrsV.nil _ _) (fun b hb=>Nat.lt_of_lt_of_le (hK b hb) L1.out.size))
   go_wp2_with fail
   refine HK.out.mono ?_
   rintro e w2 ⟨rfl,hb2⟩
   have L2:=Lib.hid (L1.out.trans (hb2.mono L1.out.size))
   clear HK hb2
   go_wp2_with fail
   all_goals (go_ret;exact ⟨ret_int (by rw [HC.out,if_neg (by rintro (q | q);exact h1 q;exact h2 q)]),L2.out⟩)
end Go.Proofs.YteidgdpaolieaaaGreatDoor

/- Contracts of slices.Clone at attributes and of the method names of a tree's builder. -/
namespace Go.Proofs.YteidgdpaolieaaaGreatDoor
open Go.RowKit
set_option maxHeartbeats 4000000 in
set_option maxRecDepth 100000 in
/-- a copy of attributes, in memory of the call's own. -/
theorem at_Clone (l : List Mk.At) (v : Value) (K : Nat→Prop) (w : World) (hv : AtsV w K v l) (hK : ∀ b,K b→b < w.heap.size) (hl : l.length≤1099511627776) :
  Calls Tryz.prog 108 #[v] w fun e w'=>∃ v',e = .returned v'∧w'.ownsRow w.heap.size 58 2 v' l.length (atCells l)∧Below w.heap.size w w':=by
 obtain ⟨ao,cap,rfl,hat,hcap,hml⟩:=hv
 have hlen:=atCells_len l
 have h1c : ∀ u ∈ atCells l,u.oneCell' = true:=by
  intro u hu
  obtain ⟨x,_,hx⟩:=List.mem_flatMap.1 hu
  simp at hx
  rcases hx with rfl | rfl <;> rfl
 have q50 : ∀ (w : World) (a : Option Addr) (n c n' c' : Nat),(binOp .eql 50 (.slice a n c) (.slice none n' c')).run Tryz.prog w = .ok (.bool a.isNone) w:=fun w a n c n' c'=>Lib.run_eql_slice_nil w _ _ a n c n' c' Tryz.underlying50
 have u50 : ∀ w,Sem.run Tryz.prog (underlying 50) w = .ok (TypeDesc.slice 58) w:=run_underlying Tryz.underlying50
 obtain ⟨i0,hi,hz0,hz1,hz2⟩:=info_parts Tryz.infoAttr
 cases ao with
 | none =>
  have hnil : atCells l = []:=by
   rcases hat with q | ⟨g,o,q,_⟩
   ·exact q
   ·cases q
  have hl0 : l.length = 0:=by rw [hnil] at hlen;simp at hlen;omega
  rw [hnil,hl0]
  clear hat hl hcap hml hnil hlen h1c hl0
  go_enter Tryz.func108,Tryz.ntmps108
  go_wp2
  go_ret
  exact ⟨_,rfl,World.ownsRow_nil _ _ _ _,Below.refl _ _⟩
 | some a =>
  have hcs : ∀ (j : Nat) (u : Value),(atCells l)[j]? = some u→(w.alloc (.cells #[] 58)).cell? (a.add j) = some u:=by
   intro j u hj
   rcases hat with q | ⟨g,o,q,_,hc⟩
   ·rw [q] at hj;cases hj
   ·injection q with q
    subst q
    rw [Addr.add_lit]
    exact Lib.cell?_alloc_some _ (hc j u hj)
  have HCS:=Lib.hid hcs
  have H1C:=Lib.hid h1c
  have HLN:=Lib.hid hlen
  clear hat hcs h1c hlen
  go_enter Tryz.func108,Tryz.ntmps108
  go_wp2_with (at_builtin;refine wpList_append_own _ rfl _ _ 50 rfl w.heap.size 58 i0 (.agg #[.string ⟨#[]⟩,.string ⟨#[]⟩]) 2 32 Tryz.underlying50 hi hz0 hz1 hz2 rfl (by decide) _ _ _ rfl (World.ownsRow_made w #[] 0 (Nat.le_refl _) (Nat.zero_le _) rfl) a l.length cap (atCells l) rfl HLN.out HCS.out H1C.out (by rw [Nat.zero_add];exact hml) (by omega) (by simp) ?_)
  intro v' w1 hown hgrow hnil
  go_wp2
  go_ret
  refine ⟨v',rfl,by simpa using hown,?_⟩
  exact ((Below.refl _ w).alloc (Nat.le_refl _) _).grown hgrow (by simp) (by intro k hk;simp [Value.ownBlock] at hk;omega)
theorem names_take (l : List (List UInt8)) (k : Nat) (h : k < l.length) (n : List UInt8) (hn : l[k]? = some n) : strVs (l.take (k + 1)) = strVs (l.take k)++[.string (st n)]:=by
 rw [List.take_add_one,hn]
 simp [strVs]
set_option maxHeartbeats 8000000 in
set_option maxRecDepth 100000 in
theorem tr_names {w : World} {B P : Nat} {K : Nat→Prop} (b : Mk.Bld) (h : BldS w B P K b) (hl : b.ops.length≤1048576) :
  Calls Tryz.prog 128 #[.pointer (some ⟨P,0,none⟩)] w fun e w'=>∃ v',e = .returned v'∧w'.ownsRow w.heap.size 9 1 v' b.names.length (strVs b.names)∧Below w.heap.size w w':=by
 obtain ⟨vn,vo,ns,xo,h⟩:=h
 have hPl:=Blk.lt h.blk
 obtain ⟨aoo,capo,hvo⟩:=own_slice h.ro
 subst hvo
 have c1 : w.cell? ⟨P,1,none⟩ = some (.slice aoo b.ops.length capo):=Blk.cell h.blk 1
 have hcells : ∀ k n a,b.ops[k]? = some (n,a)→∃ go aoa capa,aoo = some ⟨go,0,none⟩∧go < w.heap.size∧w.cell? ⟨go,k * 4,none⟩ = some (.string (st n))∧w.cell? ⟨go,k * 4 + 1,none⟩ = some (.slice aoa a.length capa)∧w.cell? ⟨go,k * 4 + 2,none⟩ = some (.string (st []))∧w.cell? ⟨go,k * 4 + 3,none⟩ = some (.slice none 0 0):=by
  intro k n a hk
  obtain ⟨va,hva,x0,x1,x2,x3⟩:=h.oc.at_ k n a hk
  obtain ⟨aoa,capa,hva1,_⟩:=hva
  subst hva1
  rcases h.ro.2 with ⟨hv,hn⟩ | ⟨g,cap,cur,hv,hb,hh,hnc,hcm,hcs,ht⟩
  ·exfalso
   rw [List.getElem?_eq_none (by omega)] at hk;cases hk
  ·injection hv with e1 e2 e3
   subst e1
   have hc:=h.ro.cells (g:=g) rfl
   have e0 : ∀ j,(⟨g,0,none⟩ : Addr).add j = ⟨g,j,none⟩:=by intro j;unfold Addr.add;split <;> simp_all
   have y0:=hc _ _ x0
   have y1:=hc _ _ x1
   have y2:=hc _ _ x2
   have y3:=hc _ _ x3
   rw [e0] at y0 y1 y2 y3
   exact ⟨g,aoa,capa,rfl,(h.ro.lt g rfl).2,y0,y1,y2,y3⟩
 have hnm:=b.ops_names
 have hnl : b.names.length = b.ops.length:=by rw [hnm];simp
 have HC:=Lib.hid hcells
 clear h hcells
 obtain ⟨i0,hi,hz0,hz1,hz2⟩:=info_parts Tryz.infoStr
 have HNM:=Lib.hid hnm
 have HNL:=Lib.hid hnl
 clear hnm hnl
 go_enter Tryz.func128,Tryz.ntmps128
 go_wp2_with fail
 go_loopw [3,11] (fun u i wr=>∃ k : Nat,k≤b.ops.length∧i = .int .i64 k∧Hid (wr.ownsRow w.heap.size 9 1 u k (strVs (b.names.take k)))∧Hid (Below w.heap.size w wr)) (fun _ i _=>b.ops.length - (intOf i).toNat)
 case atStart=>exact ⟨0,Nat.zero_le _,rfl,World.ownsRow_nil _ _ _ _,Below.refl _ _⟩
 case round =>
  obtain ⟨k,hk,rfl,OW,BL⟩:=hrel
  have hsz:=BL.out.size
  by_cases hlt : k < b.ops.length
  ·obtain ⟨⟨n,a⟩,hka⟩ : ∃ o,b.ops[k]? = some o:=⟨_,List.getElem?_eq_getElem hlt⟩
   obtain ⟨go,aoa,capa,rfl,hgl,y0,y1,y2,y3⟩:=HC.out k n a hka
   rw [← BL.out.cell (p:=⟨go,_,none⟩) hgl] at y0 y1 y2 y3
   have HT : Hid (strVs (b.names.take (k + 1)) = strVs (b.names.take k)++[.string (st n)]):=names_take _ k (by rw [HNL.out];exact hlt) n (by rw [HNM.out,List.getElem?_map,hka];rfl)
   obtain ⟨ao1,cap1,hu⟩:=own_slice OW.out
   subst hu
   clear hka
   have PB:=Lib.hid (Blk.new wr 52 #[.string (st n),.slice aoa a.length capa,.string (st []),.slice none 0 0])
   have hal:=(Below.refl wr.heap.size wr).alloc (Nat.le_refl _) (.cells #[.string (st n),.slice aoa a.length capa,.string (st []),.slice none 0 0] 52)
   have hb11:=hal.alloc hal.size (.cells #[.string (st n)] 9)
   have ow10:=own_ap' OW.out (((Ap.refl (fun _=>False) wr).alloc (.cells #[.string (st n),.slice aoa a.length capa,.string (st []),.slice none 0 0] 52)).alloc (.cells #[.string (st n)] 9)) (fun _ _ q=>q)
   have HNEW : Hid (∀ j u,[Value.string (st n)][j]? = some u→((wr.alloc (.cells #[.string (st n),.slice aoa a.length capa,.string (st []),.slice none 0 0] 52)).alloc (.cells #[.string (st n)] 9)).cell? ((⟨wr.heap.size + 1,0,none⟩ : Addr).add j) = some u):=by
    have q:=cell_one_new (wr.alloc (.cells #[.string (st n),.slice aoa a.length capa,.string (st []),.slice none 0 0] 52)) (.string (st n)) 9
    rw [World.size_alloc] at q
    exact q
   go_wp2_with (at_builtin;refine wpList_append_fresh rfl _ _ 54 rfl w.heap.size 9 i0 (.string ⟨#[]⟩) 1 16 Tryz.underlying54 hi hz0 hz1 hz2 rfl (by decide) _ _ _ rfl ow10 ⟨wr.heap.size + 1,0,none⟩ 1 1 [.string (st n)] rfl rfl HNEW.out (one_cell _ rfl) (by decide) (by unfold maxLen;omega) (by omega) (by simp;omega) ?_)
   intro v' w2 hown' hgrow hfresh
   have OW2 : Hid (w2.ownsRow w.heap.size 9 1 v' (k + 1) (strVs (b.names.take (k + 1)))):=by show World.ownsRow _ _ _ _ _ _ _;rw [HT.out];exact hown'
   have BL2 : Hid (Below w.heap.size w w2):=(BL.out.trans (hb11.mono hsz)).grown hgrow (by simp;omega) (fun q hq=>(OW.out.lt q hq).1)
   clear hown' hgrow hfresh ow10 hb11 hal y0 y1 y2 y3 PB BL OW HT
   go_wp2_with fail
   go_roundw
   case rel=>exact ⟨k + 1,by omega,by go_num,OW2,BL2⟩
   case measure=>simp [intOf];omega
  ·have hke : k = b.ops.length:=by omega
   have HO : Hid (wr.ownsRow w.heap.size 9 1 u3 b.names.length (strVs b.names)):=by
    show World.ownsRow _ _ _ _ _ _ _
    have q:=OW.out
    rw [List.take_of_length_le (by rw [HNL.out];omega)] at q
    rw [HNL.out,← hke]
    exact q
   clear hke OW
   go_wp2_with fail
   go_ret
   exact ⟨_,rfl,HO.out,BL.out⟩
end Go.Proofs.YteidgdpaolieaaaGreatDoor

/- An element opens in a tree's builder in memory. No program in sight. -/
namespace Go.Proofs.YteidgdpaolieaaaGreatDoor
open Go.RowKit
theorem four_done {w10 wF : World} {B g' cap' m : Nat} {e : TypeId} {xs : List Value} {z0 z1 z2 z3 u0 u1 u2 u3 uq : Value} {q : Addr} {N : Nat} (hx : xs.length = m * 4) (hown : w10.ownsRow B e 4 (.slice (some ⟨g',0,none⟩) N cap') N (xs++[z0,z1,z2,z3])) (hgg : q.block ≠ g')
  (hF : wF.heap = (((((w10.setCell ⟨g',m * 4,none⟩ u0).setCell ⟨g',m * 4 + 1,none⟩ u1).setCell ⟨g',m * 4 + 2,none⟩ u2).setCell ⟨g',m * 4 + 3,none⟩ u3).setCell q uq).heap ∨ wF.heap = (((((w10.setCell q uq).setCell ⟨g',m * 4,none⟩ u0).setCell ⟨g',m * 4 + 1,none⟩ u1).setCell ⟨g',m * 4 + 2,none⟩ u2).setCell ⟨g',m * 4 + 3,none⟩ u3).heap) :
  wF.ownsRow B e 4 (.slice (some ⟨g',0,none⟩) N cap') N (xs++[u0,u1,u2,u3])∧(∀ b,b ≠ g'→wF.heap[b]? = (w10.setCell q uq).heap[b]?)∧wF.heap.size = w10.heap.size:=by
 have hF : wF.heap = (((((w10.setCell ⟨g',m * 4,none⟩ u0).setCell ⟨g',m * 4 + 1,none⟩ u1).setCell ⟨g',m * 4 + 2,none⟩ u2).setCell ⟨g',m * 4 + 3,none⟩ u3).setCell q uq).heap:=by
  rcases hF with h | h
  ·exact h
  ·exact h.trans (heap_comm5 _ _ _ _ _ _ _ _ _ _ _ (fun e=>hgg e.symm) (fun e=>hgg e.symm) (fun e=>hgg e.symm) (fun e=>hgg e.symm))
 have hg' : (Value.slice (some ⟨g',0,none⟩) N cap').ownBlock = some g':=rfl
 have S1:=own_set hown hg' (m * 4) u0
 have S2:=own_set S1 hg' (m * 4 + 1) u1
 have S3:=own_set S2 hg' (m * 4 + 2) u2
 have S4:=own_set S3 hg' (m * 4 + 3) u3
 rw [set4 hx] at S4
 have S5:=ownsRow_setCell_other S4 (a:=q) (by rw [hg'];intro e;injection e with e;exact hgg e.symm) uq
 refine ⟨own_keep S5 (fun g _=>by rw [hF]),fun b h1=>?_,by rw [hF];simp [World.setCell]⟩
 by_cases h2 : b = q.block
 ·rw [hF,heap_comm5 w10 q ⟨g',m * 4,none⟩ ⟨g',m * 4 + 1,none⟩ ⟨g',m * 4 + 2,none⟩ ⟨g',m * 4 + 3,none⟩ uq u0 u1 u2 u3 (fun e=>hgg e.symm) (fun e=>hgg e.symm) (fun e=>hgg e.symm) (fun e=>hgg e.symm) |>.symm]
  rw [Below.heap_setCell _ ⟨g',m * 4 + 3,none⟩ _ b h1,Below.heap_setCell _ ⟨g',m * 4 + 2,none⟩ _ b h1,Below.heap_setCell _ ⟨g',m * 4 + 1,none⟩ _ b h1,Below.heap_setCell _ ⟨g',m * 4,none⟩ _ b h1]
 ·rw [hF,Below.heap_setCell _ q _ b h2,Below.heap_setCell _ ⟨g',m * 4 + 3,none⟩ _ b h1,Below.heap_setCell _ ⟨g',m * 4 + 2,none⟩ _ b h1,Below.heap_setCell _ ⟨g',m * 4 + 1,none⟩ _ b h1,Below.heap_setCell _ ⟨g',m * 4,none⟩ _ b h1,Below.heap_setCell w10 q _ b h2]
section
variable {w1 w9 w10 wF : World} {B P : Nat} {K : Nat→Prop} {fs : List Mk.Fo} {os : List (Mk.Bs × List Mk.At)} {vn vo v' : Value} {ns xo : List Value}
theorem bld_opened (h : BldV w1 B P K fs os vn vo ns xo) (hb9 : Below w1.heap.size w1 w9) (hown : w10.ownsRow B 52 4 v' (os.length + 1) (xo++[.string ⟨#[]⟩,.slice none 0 0,.string ⟨#[]⟩,.slice none 0 0])) (hg : w9.grownBy w10 vo.ownBlock)
  (hf : v'.ownBlock = vo.ownBlock ∨ v'.ownBlock = some w9.heap.size) :
  ∃ g' cap',v' = .slice (some ⟨g',0,none⟩) (os.length + 1) cap'∧w10.cell? ⟨g',os.length * 4,none⟩ = some (.string ⟨#[]⟩)∧w10.cell? ⟨g',os.length * 4 + 1,none⟩ = some (.slice none 0 0)∧w10.cell? ⟨g',os.length * 4 + 2,none⟩ = some (.string ⟨#[]⟩)∧w10.cell? ⟨g',os.length * 4 + 3,none⟩ = some (.slice none 0 0)∧(∀ i,w10.frozen? ⟨g',i,none⟩ = false)∧P ≠ g'∧Blk w10 P 107 #[vn,vo]∧(∀ b,b < w1.heap.size→vo.ownBlock ≠ some b→w10.heap[b]? = w1.heap[b]?):=by
 have hP:=Blk.lt h.blk
 have hfr : ∀ b,b < w1.heap.size→vo.ownBlock ≠ some b→w10.heap[b]? = w1.heap[b]?:=fun b h1 h2=>(hg.block b (Nat.lt_of_lt_of_le h1 hb9.size) (fun e=>h2 e.symm)).trans (hb9.block b h1)
 have hPo : vo.ownBlock ≠ some P:=fun e=>(h.do_ P e).1 rfl
 have hx:=h.oc.length
 rcases hown.2 with ⟨_,h0⟩ | ⟨g',cap',cur,hv,hb,hh,hnc,hcm,hcs,ht⟩
 ·omega
 ·have hc:=hown.cells (g:=g') (by rw [hv];rfl)
  have e0 : ∀ j,(⟨g',0,none⟩ : Addr).add j = ⟨g',j,none⟩:=by intro j;unfold Addr.add;split <;> simp_all
  have hcc : ∀ i u,[Value.string ⟨#[]⟩,.slice none 0 0,.string ⟨#[]⟩,.slice none 0 0][i]? = some u→w10.cell? ⟨g',os.length * 4 + i,none⟩ = some u:=by
   intro i u hu
   have:=hc (os.length * 4 + i) u (by rw [List.getElem?_append_right (by omega),hx];simpa using hu)
   rwa [e0] at this
  refine ⟨g',cap',hv,hcc 0 _ rfl,hcc 1 _ rfl,hcc 2 _ rfl,hcc 3 _ rfl,fun i=>by simp [World.frozen?,hh],?_,(hfr P hP hPo).trans h.blk,hfr⟩
  rintro rfl
  rcases hf with e | e
  ·rw [hv] at e;exact hPo e.symm
  ·rw [hv] at e
   have e : some P = some w9.heap.size:=e
   injection e with e
   have:=hb9.size
   omega
theorem bld_opened_done (h : BldV w1 B P K fs os vn vo ns xo) (hb9 : Below w1.heap.size w1 w9) {g' cap' : Nat}
  (hown : w10.ownsRow B 52 4 (.slice (some ⟨g',0,none⟩) (os.length + 1) cap') (os.length + 1) (xo++[.string ⟨#[]⟩,.slice none 0 0,.string ⟨#[]⟩,.slice none 0 0])) (hg : w9.grownBy w10 vo.ownBlock)
  (hf : (Value.slice (some ⟨g',0,none⟩) (os.length + 1) cap').ownBlock = vo.ownBlock ∨ (Value.slice (some ⟨g',0,none⟩) (os.length + 1) cap').ownBlock = some w9.heap.size) (hgP : P ≠ g')
  {n : List UInt8} {a : List Mk.At} {va : Value} (h2 : AtsV w1 K va a)
  (hF : wF.heap = (((((w10.setCell ⟨g',os.length * 4,none⟩ (.string (st n))).setCell ⟨g',os.length * 4 + 1,none⟩ va).setCell ⟨g',os.length * 4 + 2,none⟩ (.string (st []))).setCell ⟨g',os.length * 4 + 3,none⟩ (.slice none 0 0)).setCell ⟨P,1,none⟩ (.slice (some ⟨g',0,none⟩) (os.length + 1) cap')).heap ∨ wF.heap = (((((w10.setCell ⟨P,1,none⟩ (.slice (some ⟨g',0,none⟩) (os.length + 1) cap')).setCell ⟨g',os.length * 4,none⟩ (.string (st n))).setCell ⟨g',os.length * 4 + 1,none⟩ va).setCell ⟨g',os.length * 4 + 2,none⟩ (.string (st []))).setCell ⟨g',os.length * 4 + 3,none⟩ (.slice none 0 0)).heap) (ho : wF.os = w10.os) (htp : wF.tape = w10.tape) (hout : wF.output = w10.output) :
  BldV wF B P K fs (os++[(n,a)]) vn (.slice (some ⟨g',0,none⟩) (os.length + 1) cap') ns (xo++[.string (st n),va,.string (st []),.slice none 0 0])∧Ap (fun b=>B≤b∧¬ K b) w1 wF:=by
 have hg' : (Value.slice (some ⟨g',0,none⟩) (os.length + 1) cap').ownBlock = some g':=rfl
 obtain ⟨SF,hbF,hsz⟩:=four_done h.oc.length hown (q:=⟨P,1,none⟩) hgP hF
 have hP:=Blk.lt h.blk
 have hPo : vo.ownBlock ≠ some P:=fun e=>(h.do_ P e).1 rfl
 have fr : g' < w1.heap.size→vo.ownBlock = some g':=by
  intro hlt
  rcases hf with e | e
  ·rw [← e];exact hg'
  ·rw [hg'] at e;injection e with e;have:=hb9.size;omega
 have hfr : ∀ b,b < w1.heap.size→vo.ownBlock ≠ some b→w10.heap[b]? = w1.heap[b]?:=fun b h1 h2=>(hg.block b (Nat.lt_of_lt_of_le h1 hb9.size) (fun e=>h2 e.symm)).trans (hb9.block b h1)
 have hb : ∀ b,b < w1.heap.size→vo.ownBlock ≠ some b→b ≠ P→wF.heap[b]? = w1.heap[b]?:=by
  intro b h1 h2 h3
  rw [hbF b (by rintro rfl;exact h2 (fr h1)),Below.heap_setCell w10 ⟨P,1,none⟩ _ b h3,hfr b h1 h2]
 have hs : w1.heap.size≤wF.heap.size:=by rw [hsz];exact Nat.le_trans hb9.size hg.size
 have hKb : ∀ b,K b→wF.heap[b]? = w1.heap[b]?:=fun b q=>hb b (h.kle b q).2 (fun e=>(h.do_ b e).2.1 q) (fun e=>h.nK (e ▸ q))
 have kp : ∀ b,K b→K b∧wF.heap[b]? = w1.heap[b]?:=fun b q=>⟨q,hKb b q⟩
 have hblk : Blk wF P 107 #[vn,.slice (some ⟨g',0,none⟩) (os.length + 1) cap']:=by
  have q : Blk w10 P 107 #[vn,vo]:=(hfr P hP hPo).trans h.blk
  exact (hbF P hgP).trans (Blk.set_ q 1 _)
 have hfo : ∀ (i : Nat) (v : Value) (b : Nat),ns[i]? = some v→v.ownBlock = some b→wF.heap[b]? = w1.heap[b]?:=by
  intro i v b q1 q2
  obtain ⟨_,xs1,o,_⟩:=h.own_at q1
  have q3:=h.df i v b q1 q2
  exact hb b (o.own.lt b q2).2 q3.2.2.1 q3.1
 refine ⟨⟨hblk,h.hP,h.nK,fun b q=>⟨(h.kle b q).1,Nat.lt_of_lt_of_le (h.kle b q).2 hs⟩,?_,?_,?_,?_,h.dn,?_,?_⟩,⟨ho.trans (hg.os.trans hb9.os),htp.trans (hg.tape.trans hb9.tape),hout.trans (hg.output.trans hb9.output),hs,fun b h1 h2=>?_⟩⟩
 ·exact own_keep h.rn fun g e=>hb g (h.rn.lt g e).2 (fun q=>(h.do_ g q).2.2 e) (h.dn g e).1
 ·rw [List.length_append];exact SF
 ·exact (h.oc.frame kp).snoc (h2.frame kp)
 ·intro i f v q1 q2
  obtain ⟨xs1,o⟩:=h.fo i f v q1 q2
  refine ⟨xs1,o.frame hs fun b b1 b2=>?_⟩
  rcases b2 with b2 | b2
  ·exact hKb b b2
  ·exact hfo i v b q2 b2
 ·intro g e
  rw [hg'] at e
  injection e with e
  subst e
  refine ⟨fun e=>hgP e.symm,fun q=>?_,fun q=>?_⟩
  ·exact (h.do_ g' (fr (h.kle g' q).2)).2.1 q
  ·exact (h.do_ g' (fr (h.rn.lt g' q).2)).2.2 q
 ·intro i v g q1 q2
  obtain ⟨a1,a2,a3,a4⟩:=h.df i v g q1 q2
  refine ⟨a1,a2,fun e=>?_,a4⟩
  rw [hg'] at e
  injection e with e
  subst e
  obtain ⟨_,xs1,o,_⟩:=h.own_at q1
  exact a3 (fr (o.own.lt g' q2).2)
 ·by_cases hB : B≤b
  ·exact hKb b (Classical.byContradiction fun q=>h2 ⟨hB,q⟩)
  ·refine hb b h1 (fun e=>?_) (fun e=>?_)
   ·have:=(h.ro.lt b e).1;omega
   ·have:=h.hP;omega
/-- an empty forest comes behind the others. -/
theorem bld_noded (h : BldV w1 B P K fs os vn vo ns xo) (hb9 : Below w1.heap.size w1 w9) (hown : w10.ownsRow B 22 1 v' (fs.length + 1) (ns++[.slice none 0 0])) (hg : w9.grownBy w10 vn.ownBlock)
  (hf : v'.ownBlock = vn.ownBlock ∨ v'.ownBlock = some w9.heap.size) :
  Blk w10 P 107 #[vn,vo]∧BldV (w10.setCell ⟨P,0,none⟩ v') B P K (fs++[.nil]) os v' vo (ns++[.slice none 0 0]) xo∧Ap (fun b=>B≤b∧¬ K b) w1 (w10.setCell ⟨P,0,none⟩ v'):=by
 have hP:=Blk.lt h.blk
 have hPn : vn.ownBlock ≠ some P:=fun e=>(h.dn P e).1 rfl
 have fr : ∀ g,v'.ownBlock = some g→g < w1.heap.size→vn.ownBlock = some g:=by
  intro g hg' hlt
  rcases hf with e | e
  ·rw [← e];exact hg'
  ·rw [hg'] at e;injection e with e;have:=hb9.size;omega
 have hfr : ∀ b,b < w1.heap.size→vn.ownBlock ≠ some b→w10.heap[b]? = w1.heap[b]?:=fun b h1 h2=>(hg.block b (Nat.lt_of_lt_of_le h1 hb9.size) (fun e=>h2 e.symm)).trans (hb9.block b h1)
 have hb : ∀ b,b < w1.heap.size→vn.ownBlock ≠ some b→b ≠ P→(w10.setCell ⟨P,0,none⟩ v').heap[b]? = w1.heap[b]?:=by
  intro b h1 h2 h3
  rw [Below.heap_setCell w10 ⟨P,0,none⟩ _ b h3,hfr b h1 h2]
 have hs : w1.heap.size≤(w10.setCell ⟨P,0,none⟩ v').heap.size:=by
  have : (w10.setCell ⟨P,0,none⟩ v').heap.size = w10.heap.size:=by simp [World.setCell]
  rw [this];exact Nat.le_trans hb9.size hg.size
 have hKb : ∀ b,K b→(w10.setCell ⟨P,0,none⟩ v').heap[b]? = w1.heap[b]?:=fun b q=>hb b (h.kle b q).2 (fun e=>(h.dn b e).2 q) (fun e=>h.nK (e ▸ q))
 have kp : ∀ b,K b→K b∧(w10.setCell ⟨P,0,none⟩ v').heap[b]? = w1.heap[b]?:=fun b q=>⟨q,hKb b q⟩
 have hne : v'.ownBlock ≠ some P:=fun e=>hPn (fr P e hP)
 have hnl:=h.nlen
 refine ⟨(hfr P hP hPn).trans h.blk,⟨?_,h.hP,h.nK,fun b q=>⟨(h.kle b q).1,Nat.lt_of_lt_of_le (h.kle b q).2 hs⟩,?_,?_,h.oc.frame kp,?_,?_,?_,?_⟩,⟨hg.os.trans hb9.os,hg.tape.trans hb9.tape,hg.output.trans hb9.output,hs,fun b h1 h2=>?_⟩⟩
 ·have q : Blk w10 P 107 #[vn,vo]:=(hfr P hP hPn).trans h.blk
  exact Blk.set_ q 0 v'
 ·rw [List.length_append];exact ownsRow_setCell_other hown (a:=⟨P,0,none⟩) hne v'
 ·exact own_keep h.ro fun g e=>hb g (h.ro.lt g e).2 (h.do_ g e).2.2 (h.do_ g e).1
 ·intro i f v q1 q2
  rcases Nat.lt_or_ge i fs.length with hi | hi
  ·rw [List.getElem?_append_left hi] at q1
   rw [List.getElem?_append_left (by omega)] at q2
   obtain ⟨xs1,o⟩:=h.fo i f v q1 q2
   refine ⟨xs1,o.frame hs fun b b1 b2=>?_⟩
   rcases b2 with b2 | b2
   ·exact hKb b b2
   ·have:=h.df i v b q2 b2
    exact hb b b1 this.2.1 this.1
  ·have hi2 : i = fs.length:=by
    rcases Nat.lt_or_ge fs.length i with q | q
    ·rw [List.getElem?_eq_none (by simp;omega)] at q1;cases q1
    ·omega
   subst hi2
   rw [getElem?_last fs .nil _ rfl] at q1
   rw [getElem?_last ns _ _ hnl.symm] at q2
   injection q1 with q1
   injection q2 with q2
   subst q1;subst q2
   exact ⟨[],⟨World.ownsRow_nil _ _ _ _,rfl,(fun g e=>(by cases e)),fun b q=>Nat.lt_of_lt_of_le (h.kle b q).2 hs⟩⟩
 ·intro g e
  refine ⟨fun q=>hne (q ▸ e),fun q=>?_⟩
  exact (h.dn g (fr g e (h.kle g q).2)).2 q
 ·intro g e
  obtain ⟨a1,a2,a3⟩:=h.do_ g e
  exact ⟨a1,a2,fun q=>a3 (fr g q (h.ro.lt g e).2)⟩
 ·intro i v g q1 q2
  have hi : i < ns.length:=by
   rcases Nat.lt_or_ge i ns.length with hi | hi
   ·exact hi
   ·rcases Nat.lt_or_ge ns.length i with q | q
    ·rw [List.getElem?_eq_none (by simp;omega)] at q1;cases q1
    ·have : i = ns.length:=by omega
     subst this
     rw [getElem?_last ns _ _ rfl] at q1
     injection q1 with q1
     subst q1;cases q2
  rw [List.getElem?_append_left hi] at q1
  obtain ⟨a1,a2,a3,a4⟩:=h.df i v g q1 q2
  obtain ⟨_,xs1,o,_⟩:=h.own_at q1
  refine ⟨a1,fun e=>a2 (fr g e (o.own.lt g q2).2),a3,fun j u q3 q4=>?_⟩
  rcases Nat.lt_or_ge j ns.length with hj | hj
  ·rw [List.getElem?_append_left hj] at q3
   exact a4 j u q3 q4
  ·exfalso
   rcases Nat.lt_or_ge ns.length j with q | q
   ·rw [List.getElem?_eq_none (by simp;omega)] at q3;cases q3
   ·have : j = ns.length:=by omega
    subst this
    rw [getElem?_last ns _ _ rfl] at q3
    injection q3 with q3
    subst q3;cases q4
 ·by_cases hB : B≤b
  ·exact hKb b (Classical.byContradiction fun q=>h2 ⟨hB,q⟩)
  ·refine hb b h1 (fun e=>?_) (fun e=>?_)
   ·have:=(h.rn.lt b e).1;omega
   ·have:=h.hP;omega
end
end Go.Proofs.YteidgdpaolieaaaGreatDoor

/- What a token does to a tree's builder: bounds; and a builder's put and close, at values. -/
namespace Mk
theorem cutTo_le (l : List Bs) (o : Option Nat) : (cutTo l o).length≤l.length:=by
 cases o with
 | none=>exact Nat.le_refl _
 | some k=>show (l.take k).length≤_;rw [List.length_take];omega
theorem stays_len (l : List Bs) (n : Bs) : stays l n≤l.length:=by
 unfold stays
 have h1 : ∀ l : List Bs,(if blockB n then cutTo l (above [112] wallB l) else l).length≤l.length:=by
  intro l;split
  ·exact cutTo_le _ _
  ·exact Nat.le_refl _
 have h2 : ∀ l : List Bs,(if n == [108,105] then cutTo l (above [108,105] listB l) else l).length≤l.length:=by
  intro l;split
  ·exact cutTo_le _ _
  ·exact Nat.le_refl _
 exact Nat.le_trans (h2 _) (h1 _)
namespace Bld
theorem closeN_len : ∀ (n : Nat) (b : Bld),(ops (closeN n b)).length≤(ops b).length
 | 0,_=>Nat.le_refl _
 | n + 1,b=>by
  have h1:=closeN_len n b.pop
  have h2:=pop_len b
  show (ops (closeN n b.pop)).length≤_
  omega
theorem close_len (b : Bld) (n : Nat) : (ops (b.close n)).length≤(ops b).length:=closeN_len _ b
theorem close_bulk (b : Bld) (n : Nat) : bulk (b.close n)≤bulk b:=closeN_bulk _ b
theorem putIn_len (b : Bld) (n : Bs) (a : List At) (t : Bs) (k : Fo) : ops (putIn b n a t k) = ops b:=by
 obtain ⟨L,f,_,h⟩:=put_fos b
 exact (h n a t k).2
theorem names_len (b : Bld) : b.names.length = b.ops.length:=by rw [ops_names];simp
def tokB (l : List Tok) : Nat:=(l.map fun t=>2 + t.name.length + t.text.length + Fo.atB t.ats).sum
theorem tokB_cons (t : Tok) (l : List Tok) : tokB (t :: l) = 2 + t.name.length + t.text.length + Fo.atB t.ats + tokB l:=by simp [tokB]
theorem token_len (b : Bld) (t : Tok) (h : (ops b).length≤8) : (ops (b.token t)).length≤8:=by
 unfold token
 split
 ·rw [putIn_len];exact h
 split
 ·have hc:=close_len b (stays b.names t.name)
  simp only []
  split
  ·omega
  split
  ·rw [putIn_len];omega
  ·rename_i h1 _
   rw [(push_fos (b.close (stays b.names t.name)) t.name t.ats).2,List.length_append,List.length_singleton]
   rw [← ops_open] at h1
   omega
 split
 ·split
  ·exact h
  ·have:=close_len b;rename_i i _;have:=this i;omega
 ·exact h
theorem token_bulk (b : Bld) (t : Tok) : bulk (b.token t)≤bulk b + (2 + t.name.length + t.text.length + Fo.atB t.ats):=by
 unfold token
 split
 ·have:=put_bulk b [] [] t.text .nil
  have e : Fo.atB [] = 0:=rfl
  have e2 : Fo.bulk .nil = 0:=rfl
  rw [e,e2] at this
  simp only [List.length_nil] at this
  omega
 split
 ·have hc:=close_bulk b (stays b.names t.name)
  simp only []
  split
  ·omega
  split
  ·have:=put_bulk (b.close (stays b.names t.name)) t.name t.ats [] .nil
   have e2 : Fo.bulk .nil = 0:=rfl
   rw [e2] at this
   simp only [List.length_nil] at this
   omega
  ·obtain ⟨e1,e2⟩:=push_fos (b.close (stays b.names t.name)) t.name t.ats
   have e3 : bulk (b.close (stays b.names t.name)) = foB (fos (b.close (stays b.names t.name))) + opB (ops (b.close (stays b.names t.name))):=rfl
   have e4 : Fo.bulk .nil = 0:=rfl
   have e5 : bulk b = foB (fos b) + opB (ops b):=rfl
   unfold bulk
   rw [e1,e2,foB_app,opB_app,foB_one,opB_one,e4]
   omega
 split
 ·split
  ·omega
  ·rename_i i _;have:=close_bulk b i;omega
 ·omega
end Bld
end Mk
namespace Go.Proofs.YteidgdpaolieaaaGreatDoor
open Go.RowKit
/-- more blocks that stay: new ones. -/
theorem BldS.grow {w w1 : World} {B P : Nat} {K S : Nat→Prop} {b : Mk.Bld} (h : BldS w B P K b) (hb : Below w.heap.size w w1) (hS : ∀ x,S x→w.heap.size≤x∧x < w1.heap.size) : BldS w1 B P (fun x=>K x ∨ S x) b:=by
 obtain ⟨vn,vo,ns,xo,h⟩:=h
 refine ⟨vn,vo,ns,xo,(h.below hb).more (fun x q=>.inl q) ?_ ?_⟩
 ·rintro x (q | q)
  ·have:=h.kle x q
   have:=hb.size
   omega
  ·have:=hS x q
   have:=h.blt
   omega
 ·rintro x (q | q)
  ·refine ⟨fun e=>h.nK (e ▸ q),fun e=>(h.dn x e).2 q,fun e=>(h.do_ x e).2.1 q,fun i v q1 e=>?_⟩
   obtain ⟨_,_,o,_⟩:=h.own_at q1
   exact o.ne x e q
  ·have hx:=(hS x q).1
   refine ⟨fun e=>?_,fun e=>?_,fun e=>?_,fun i v q1 e=>?_⟩
   ·have:=Blk.lt h.blk;omega
   ·have:=(h.rn.lt x e).2;omega
   ·have:=(h.ro.lt x e).2;omega
   ·obtain ⟨_,_,o,_⟩:=h.own_at q1
    have:=(o.own.lt x e).2;omega
theorem tr_put' {w : World} {B P : Nat} {K : Nat→Prop} {b : Mk.Bld} (h : BldS w B P K b) (n : List UInt8) (a : List Mk.At) (t : List UInt8) (va : Value) (hva : AtsV w K va a) (hbk : b.bulk + (1 + n.length + t.length + Mk.Fo.atB a)≤1099511627776) (hl : b.ops.length≤1048576) :
  Calls Tryz.prog 127 #[.pointer (some ⟨P,0,none⟩),nodeV n va t (.slice none 0 0)] w fun e w'=>e = .returned (.tuple #[])∧BldS w' B P K (b.putIn n a t .nil)∧Ap (fun x=>B≤x∧¬ K x) w w':=by
 obtain ⟨vn,vo,ns,xo,h⟩:=h
 obtain ⟨L,f,h1,h2⟩:=b.put_fos
 obtain ⟨h3,h4⟩:=h2 n a t .nil
 have hfl:=b.fos_len
 rw [h1,List.length_append,List.length_singleton] at hfl
 have hb : b.bulk = Mk.Bld.foB b.fos + Mk.Bld.opB b.ops:=rfl
 rw [h1,Mk.Bld.foB_app,Mk.Bld.foB_one] at hb
 rw [h1] at h
 have e2 : Mk.Fo.bulk .nil = 0:=rfl
 refine (tr_put h n a t .nil va hva none 0 [] (.inl rfl) rfl (Nat.zero_le _) (by rw [e2];omega) (by omega)).mono ?_
 rintro e w' ⟨rfl,⟨ns',hb'⟩,hap⟩
 exact ⟨rfl,⟨vn,vo,ns',xo,by rw [h3,h4];exact hb'⟩,hap⟩
theorem Tryz.infoRow : (Tryz.prog.info? 22).map (fun i=>(i.zero,i.size,i.bytes)) = some (some (.slice none 0 0),1,24):=by kernel_rfl
/-- an element opens: what a builder has before, and behind. -/
theorem BldS.pushed {w wF : World} {B P : Nat} {K : Nat→Prop} {c : Mk.Bld} {n : List UInt8} {a : List Mk.At} {vn vo : Value} {ns xo : List Value} (h : BldV wF B P K (c.fos++[.nil]) (c.ops++[(n,a)]) vn vo ns xo) : BldS wF B P K { c with open_:=c.open_++[⟨n,a,.nil⟩] }:=by
 obtain ⟨e1,e2⟩:=c.push_fos n a
 exact ⟨vn,vo,ns,xo,by rw [e1,e2];exact h⟩
end Go.Proofs.YteidgdpaolieaaaGreatDoor
