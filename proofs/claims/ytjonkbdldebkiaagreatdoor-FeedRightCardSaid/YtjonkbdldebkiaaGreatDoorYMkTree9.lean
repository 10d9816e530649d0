/- Contract of the program's close of a tree's builder: all that are open but so many. Condition: at most 1099511627776 nodes, attributes and letters together. -/
import Derived.Test.YtjonkbdldebkiaaGreatDoorYMkClean4
import Derived.Test.YtjonkbdldebkiaaGreatDoorYMkTree2
import Derived.Test.YtjonkbdldebkiaaGreatDoorYMkTok5
import Derived.Deep.RegionHeld3
set_option linter.unusedVariables false
set_option linter.unusedSimpArgs false
set_option maxHeartbeats 8000000
set_option maxRecDepth 100000
namespace Go.Proofs.YtjonkbdldebkiaaGreatDoor
open Go.RowKit
section
variable {w w2 : World} {B P : Nat} {K : Nat→Prop} {L : List Mk.Fo} {f f' : Mk.Fo} {O : List (Mk.Bs × List Mk.At)} {n : List UInt8} {a : List Mk.At} {vn vo : Value} {ns xo : List Value}
theorem j2a {size m nn cap g:Nat} {e:TypeId} {xs:List Value} (h:w.ownsRow B e size (.slice (some ⟨g,0,none⟩) nn cap) nn xs) (hm:m≤nn):w.ownsRow B e size (.slice (some ⟨g,0,none⟩) m cap) m (xs.take (m * size)):=by
 have hle:m * size≤nn * size:=Nat.mul_le_mul_right _ hm;refine⟨by rw[List.length_take,h.1];omega,?_⟩
 rcases h.2 with ⟨hv,_⟩ | ⟨g',cap',cur,hv,hb,hh,hnc,hcm,hcs,ht⟩
 ·cases hv
 ·injection hv with e1 e2 e3
  injection e1 with e1;injection e1 with e1;subst e1;subst e3;refine .inr ⟨g,cap,cur,rfl,hb,hh,by omega,hcm,hcs,?_⟩;rw[← ht,List.take_take,Nat.min_eq_left hle]
def KU (K:Nat→Prop) (v:Value) (b:Nat):Prop:=K b∨v.ownBlock=some b
theorem BldV.popped (h:BldV w B P K (L++[f',f]) (O++[(n,a)]) vn vo ns xo):∃ gn capn go capo aoa capa ao cap xsf ys,vn=.slice (some ⟨gn,0,none⟩) (L.length + 2) capn∧vo=.slice (some ⟨go,0,none⟩) (O.length + 1) capo∧L.length + 2≤capn∧O.length + 1≤capo ∧
  w.cell? ⟨go,O.length * 4,none⟩=some (.string (st n))∧w.cell? ⟨go,O.length * 4 + 1,none⟩=some (.slice aoa a.length capa)∧w.cell? ⟨go,O.length * 4 + 2,none⟩=some (.string (st []))∧w.cell? ⟨go,O.length * 4 + 3,none⟩=some (.slice none 0 0)∧w.cell? ⟨gn,L.length + 1,none⟩=some (.slice ao f.len cap)∧go ≠ P∧gn ≠ P∧go < w.heap.size∧gn < w.heap.size ∧
  ∀ w2:World,Blk w2 P 186 #[.slice (some ⟨gn,0,none⟩) (L.length + 1) capn,.slice (some ⟨go,0,none⟩) O.length capo]→(∀ b,b < w.heap.size→b ≠ P→w2.heap[b]? = w.heap[b]?)→w.heap.size≤w2.heap.size →
   BldV w2 B P (KU K (.slice ao f.len cap)) (L++[f']) O (.slice (some ⟨gn,0,none⟩) (L.length + 1) capn) (.slice (some ⟨go,0,none⟩) O.length capo) (ns.take (L.length + 1)) ys∧AtsV w2 (KU K (.slice ao f.len cap)) (.slice aoa a.length capa) a∧z2e w2 (KU K (.slice ao f.len cap)) ao xsf∧Y4 w2 (KU K (.slice ao f.len cap)) f xsf∧f.len≤maxLen:=by
 have hnl:=h.nlen;have hrn:=h.rn;have hro:=h.ro;simp only [List.length_append,List.length_cons,List.length_nil] at hnl hrn hro;have e0:∀ g j,(⟨g,0,none⟩:Addr).add j=⟨g,j,none⟩:=by intro g j;unfold Addr.add;split <;> simp_all
 obtain⟨va,ys,hxo,hva,hoc⟩:=h.oc.last;obtain⟨aoa,capa,hva1,hva2⟩:=id hva;subst hva1;have hyl:=hoc.length
 rcases hrn.2 with ⟨_,q⟩ | ⟨gn,capn,curn,hvn,hbn,hhn,hncn,hcmn,hcsn,htn⟩
 ·omega
 rcases hro.2 with ⟨_,q⟩ | ⟨go,capo,curo,hvo,hbo,hho,hnco,hcmo,hcso,hto⟩
 ·omega
 have hvn:vn=.slice (some ⟨gn,0,none⟩) (L.length + 2) capn:=hvn;have hvo:vo=.slice (some ⟨go,0,none⟩) (O.length + 1) capo:=hvo;subst hvn;subst hvo;have kn:(Value.slice (some ⟨gn,0,none⟩) (L.length + 2) capn).ownBlock=some gn:=rfl;have ko:(Value.slice (some ⟨go,0,none⟩) (O.length + 1) capo).ownBlock=some go:=rfl;have hcn:=hrn.cells (g:=gn) rfl;have hco:=hro.cells (g:=go) rfl;have hi:L.length + 1 < ns.length:=by omega
 have hv1:ns[L.length + 1]? = some ns[L.length + 1]:=List.getElem?_eq_getElem hi;have hf1:(L++[f',f])[L.length + 1]? = some f:=by rw[List.getElem?_append_right (by omega)];simp
 obtain⟨xsf,hof⟩:=h.fo _ f _ hf1 hv1;obtain⟨ao,cap,hu⟩:=Y1 hof.own;rw[hu] at hv1 hof;have hfl:f.len≤maxLen:=by
  obtain⟨_,_,_,_,_,q⟩:=z2e.of_own (K:=fun _=>True) hof.own (fun _ _=>trivial);exact q
 have hd:=h.df (L.length + 1) (.slice ao f.len cap);have ho:∀ i u,[Value.string (st n),.slice aoa a.length capa,.string (st []),.slice none 0 0][i]? = some u→w.cell? ⟨go,O.length * 4 + i,none⟩=some u:=by
  intro i u q;have:=hco (O.length * 4 + i) u (by rw[hxo,List.getElem?_append_right (by omega),hyl];simpa using q)
  rwa [e0] at this
 have hgnP:=(h.dn gn kn).1;have hgoP:=(h.do_ go ko).1;refine⟨gn,capn,go,capo,aoa,capa,ao,cap,xsf,ys,rfl,rfl,by omega,by omega,ho 0 _ rfl,ho 1 _ rfl,ho 2 _ rfl,ho 3 _ rfl,by have:=hcn _ _ hv1;rwa [e0] at this,hgoP,hgnP,(hro.lt go ko).2,(hrn.lt gn kn).2,?_⟩;intro w2 hP hb hs;have hKb:∀ b,K b→w2.heap[b]? = w.heap[b]?:=fun b q=>hb b (h.kle b q).2 (fun e=>h.nK (e ▸ q))
 have kp:∀ b,K b→KU K (.slice ao f.len cap) b∧w2.heap[b]? = w.heap[b]?:=fun b q=>⟨.inl q,hKb b q⟩
 have hvb:∀ g,(Value.slice ao f.len cap).ownBlock=some g→w2.heap[g]? = w.heap[g]?:=fun g e=>hb g (hof.own.lt g e).2 (hd g hv1 e).1
 have htk:∀ i:Nat,i < L.length + 1→(ns.take (L.length + 1))[i]? = ns[i]?:=fun i q=>by rw[List.getElem?_take];simp[q]
 have htk2:∀ (i:Nat) (v:Value),(ns.take (L.length + 1))[i]? = some v→i < L.length + 1∧ns[i]? = some v:=by
  intro i v q;rw[List.getElem?_take] at q
  split at q
  ·exact⟨by assumption,q⟩
  ·cases q
 refine⟨⟨hP,h.hP,?_,?_,?_,?_,?_,?_,?_,?_,?_⟩,hva.frame kp,?_,hof.cells.frame kp,hfl⟩
 ·rintro (q | q)
  ·exact h.nK q
  ·exact(hd P hv1 q).1 rfl
 ·rintro b (q | q)
  ·exact⟨(h.kle b q).1,Nat.lt_of_lt_of_le (h.kle b q).2 hs⟩
  ·exact⟨(hof.own.lt b q).1,Nat.lt_of_lt_of_le (hof.own.lt b q).2 hs⟩
 ·have:=j2a hrn (m:=L.length + 1) (by omega)
  rw[Nat.mul_one] at this;rw[List.length_append];exact z0l this (fun g e=>by injection e with e;rw[← e];exact hb gn (hrn.lt gn kn).2 hgnP)
 ·have:=j2a hro (m:=O.length) (by omega)
  rw[hxo,List.take_left' hyl] at this;exact z0l this (fun g e=>by injection e with e;rw[← e];exact hb go (hro.lt go ko).2 hgoP)
 ·exact hoc.frame kp
 ·intro i f1 v1 q1 q2
  obtain⟨hi1,q2⟩:=htk2 i v1 q2;have q3:(L++[f',f])[i]? = some f1:=by
   rw[show L++[f',f]=(L++[f'])++[f] by simp,List.getElem?_append_left (by simp;omega)];exact q1
  obtain⟨xs1,o⟩:=h.fo i f1 v1 q3 q2;have o1:=o.frame hs (fun b b1 b2=>by
   rcases b2 with b2 | b2
   ·exact hKb b b2
   ·exact hb b b1 (h.df i v1 b q2 b2).1)
  refine⟨xs1,o1.own,o1.cells.frame (fun b q=>⟨.inl q,rfl⟩),?_,?_⟩
  ·rintro g e (q | q)
   ·exact o1.ne g e q
   ·have:=(h.df i v1 g q2 e).2.2.2 _ _ hv1 q
    omega
  ·rintro b (q | q)
   ·exact o1.le b q
   ·exact Nat.lt_of_lt_of_le (hof.own.lt b q).2 hs
 ·intro g e
  have e:some gn=some g:=e;injection e with e;subst e;refine⟨hgnP,?_⟩;rintro (q | q)
  ·exact(h.dn gn kn).2 q
  ·exact(hd gn hv1 q).2.1 kn
 ·intro g e
  have e:some go=some g:=e;injection e with e;subst e;refine⟨hgoP,?_,fun q=>(h.do_ go ko).2.2 q⟩;rintro (q | q)
  ·exact(h.do_ go ko).2.1 q
  ·exact(hd go hv1 q).2.2.1 ko
 ·intro i v g q1 q2
  obtain⟨hi1,q1⟩:=htk2 i v q1;obtain⟨a1,a2,a3,a4⟩:=h.df i v g q1 q2;exact⟨a1,a2,a3,fun j u q3 q4=>a4 j u (htk2 j u q3).2 q4⟩
 ·obtain⟨ao',cap',hq,hr,_⟩:=z2e.of_own (K:=fun b=>(Value.slice ao f.len cap).ownBlock=some b) hof.own (fun g e=>e)
  injection hq with hq _ _;subst hq;exact hr.frame fun b q=>⟨.inr q,hvb b q⟩
end
def BldS (w:World) (B P:Nat) (K:Nat→Prop) (b:Mk.Bld):Prop:=∃ vn vo ns xo,BldV w B P K b.fos b.ops vn vo ns xo
def BldR (B P:Nat) (K:Nat→Prop) (b:Mk.Bld) (w w':World):Prop:=∃ K',(∀ x,K x→K' x)∧BldS w' B P K' b∧Ap (fun x=>B≤x∧¬ K x) w w'
theorem BldR.step {B P:Nat} {K K':Nat→Prop} {b:Mk.Bld} {w w1 w2:World} (hK:∀ x,K x→K' x) (ha:Ap (fun x=>B≤x∧¬ K x) w w1) (h:BldR B P K' b w1 w2):BldR B P K b w w2:=by
 obtain⟨K2,h1,h2,h3⟩:=h;exact⟨K2,fun x q=>h1 x (hK x q),h2,ha.trans (h3.sub fun x q=>⟨q.1,fun e=>q.2 (hK x e)⟩)⟩
theorem BldR.of {B P:Nat} {K:Nat→Prop} {b:Mk.Bld} {w w1:World} (h:BldS w1 B P K b) (ha:Ap (fun x=>B≤x∧¬ K x) w w1):BldR B P K b w w1:=⟨K,fun _ q=>q,h,ha⟩
theorem BldS.below {B P:Nat} {K:Nat→Prop} {b:Mk.Bld} {w w1:World} (h:BldS w B P K b) (hb:Below w.heap.size w w1):BldS w1 B P K b:=by
 obtain⟨vn,vo,ns,xo,h⟩:=h;exact⟨_,_,_,_,h.below hb⟩
theorem z3t {w w':World} {g:Nat} (h:w'.heap[g]? = w.heap[g]?) (o:Nat):w'.frozen? ⟨g,o,none⟩=w.frozen? ⟨g,o,none⟩:=by
 simp[World.frozen?,h]
def q87 (w:World) (P:Nat):Nat:=match w.cell? ⟨P,1,none⟩ with | some (.slice _ n _)=>n | _=>0
theorem q6r {w:World} {B P:Nat} {K:Nat→Prop} (b:Mk.Bld) (h:BldS w B P K b) (many:Nat) (hmany:many≤1048576) (hbk:b.bulk≤549755813888) (hl:b.ops.length≤1048576) :
  Calls Tryz.prog 130 #[.pointer (some ⟨P,0,none⟩),.int .i64 many] w fun e w'=>e=.returned (.tuple #[])∧BldR B P K (b.close many) w w':=by
 have hst:∀ l:List UInt8,(st l).toList=l:=fun l=>Lib.toList_data _
 have H:=Lib.hid h;clear h;go_enter Tryz.func130,Tryz.ntmps130;go_wp2_with fail
 go_loopw [] (fun wr=>∃ c:Mk.Bld,Hid (BldR B P K c w wr∧c.close many=b.close many)∧c.bulk≤549755813888∧c.ops.length≤1048576) (fun wr=>q87 wr P)
 case atStart=>exact⟨b,⟨BldR.of H.out (Ap.refl _ _),rfl⟩,hbk,hl⟩
 case round =>
  obtain⟨c,HR,hcb,hcl⟩:=hrel;obtain⟨⟨K1,hK1,⟨vn,vo,ns,xo,hb⟩,hap⟩,hcl2⟩:=HR.out;clear HR
  by_cases hlt:many < c.ops.length
  ·obtain⟨O,⟨n,a⟩,hO⟩:∃ O o,c.ops=O++[o]:=by
    rcases List.eq_nil_or_concat c.ops with q | ⟨O,o,q⟩
    ·rw[q] at hlt;simp at hlt
    ·exact⟨O,o,by simpa using q⟩
   obtain⟨L,f',f,hL,hL2,hO2⟩:=c.j0h O n a hO;have hcn:c.close many=(c.pop).close many:=by
    show Mk.Bld.z2c _ c=Mk.Bld.z2c _ c.pop;have h1:=c.z6d;have h2:=c.pop.z6d;have h3:=c.q67;rw[show c.open_.length - many=(c.pop.open_.length - many) + 1 by omega,Mk.Bld.j4c]
   have hpl:=c.q67;have hpb:=c.j2c;have hfl:=c.q9w;rw[hO,hL] at hfl;have hbb:f'.bulk + (1 + n.length + ([]:List UInt8).length + Mk.Fo.atB a + f.bulk)≤1099511627776:=by
    have:c.bulk=Mk.Bld.foB c.fos + Mk.Bld.opB c.ops:=rfl;rw[hL,hO,show L++[f',f]=L++[f']++[f] by simp,Mk.Bld.z6a,Mk.Bld.z6a,Mk.Bld.z4p,Mk.Bld.z4p,Mk.Bld.j0e,Mk.Bld.j0f] at this;simp only [List.length_nil];omega
   rw[hL,hO] at hb;obtain⟨gn,capn,go,capo,aoa,capa,ao,cap,xsf,ys,hvn,hvo,hcpn,hcpo,k0,k1,k2,k3,kn,hgoP,hgnP,hgol,hgnl,hpop⟩:=hb.popped;subst hvn;subst hvo;have hLO:L.length=O.length:=by simp at hfl;omega
   have hPl:=Blk.lt hb.blk;have c0:wr.cell? ⟨P,0,none⟩=some (.slice (some ⟨gn,0,none⟩) (L.length + 2) capn):=Blk.cell hb.blk 0;have c1:wr.cell? ⟨P,1,none⟩=some (.slice (some ⟨go,0,none⟩) (O.length + 1) capo):=Blk.cell hb.blk 1;have g0:wr.frozen? ⟨P,0,none⟩=false:=Blk.frozen hb.blk 0;have g1:wr.frozen? ⟨P,1,none⟩=false:=Blk.frozen hb.blk 1;have HPOP:=Lib.hid hpop;have HB:=Lib.hid hb;have HAP:=Lib.hid hap;have hcl0:c.ops.length=O.length + 1:=by rw[hO];simp
   rw[hO] at hlt hcl;simp only [List.length_append,List.length_singleton] at hlt hcl;have hlt':(many:Int) < (O.length:Int) + 1:=by omega
   rw[hLO] at c0 kn;have HL2:=Lib.hid hL2;have HO2:=Lib.hid hO2;have HOW:Hid (q87 wr P=O.length + 1):=by
    show _=_;unfold q87;rw[c1]
   clear hpop hb hap hfl hO hL hL2 hO2;go_upto_region 4 with fail;have PB:=Lib.hid (Blk.new wr 53 #[.string (st n),.slice aoa a.length capa,.string (st []),.slice ao f.len cap]);have hAL:=(Below.refl wr.heap.size wr).alloc (Nat.le_refl _) (.cells #[.string (st n),.slice aoa a.length capa,.string (st []),.slice ao f.len cap] 53);have c0':=(hAL.cell (p:=⟨P,0,none⟩) hPl).trans c0;have c1':=(hAL.cell (p:=⟨P,1,none⟩) hPl).trans c1;have HAL:=Lib.hid hAL;have g0':(wr.alloc (.cells #[.string (st n),.slice aoa a.length capa,.string (st []),.slice ao f.len cap] 53)).frozen? ⟨P,0,none⟩=false:=by rw[← g0];exact z3t (hAL.block P hPl) 0
   have g1':(wr.alloc (.cells #[.string (st n),.slice aoa a.length capa,.string (st []),.slice ao f.len cap] 53)).frozen? ⟨P,1,none⟩=false:=by rw[← g1];exact z3t (hAL.block P hPl) 1
   have PP:=Lib.hid (show Blk (wr.alloc (.cells #[.string (st n),.slice aoa a.length capa,.string (st []),.slice ao f.len cap] 53)) P 186 _ from (hAL.block P hPl).trans HB.out.blk);clear c0 c1 g0 g1 k0 k1 k2 k3 kn hAL;have hs1:(O.length:Int)≤capo:=by omega
   have hs2:(O.length:Int) + 1≤capn:=by omega
   have hs3:(0:Int)≤(O.length:Int) + 1:=by omega
   generalize (wr.alloc (.cells #[.string (st n),.slice aoa a.length capa,.string (st []),.slice ao f.len cap] 53))=w1 at PB HAL c0' c1' g0' g1' PP ⊢
   go_region
   have hw2:∀ b,b ≠ P→((w1.setCell ⟨P,1,none⟩ (.slice (some ⟨go,0,none⟩) O.length capo)).setCell ⟨P,0,none⟩ (.slice (some ⟨gn,0,none⟩) (O.length + 1) capn)).drew.heap[b]? = w1.heap[b]?:=fun b q=>(Below.heap_setCell _ ⟨P,0,none⟩ _ b q).trans (Below.heap_setCell w1 ⟨P,1,none⟩ _ b q)
   have hB2:Blk ((w1.setCell ⟨P,1,none⟩ (.slice (some ⟨go,0,none⟩) O.length capo)).setCell ⟨P,0,none⟩ (.slice (some ⟨gn,0,none⟩) (O.length + 1) capn)).drew P 186 #[.slice (some ⟨gn,0,none⟩) (O.length + 1) capn,.slice (some ⟨go,0,none⟩) O.length capo]:=Blk.drew (Blk.set_ (Blk.set_ PP.out 1 _) 0 _);have hs2:w1.heap.size≤((w1.setCell ⟨P,1,none⟩ (.slice (some ⟨go,0,none⟩) O.length capo)).setCell ⟨P,0,none⟩ (.slice (some ⟨gn,0,none⟩) (O.length + 1) capn)).drew.heap.size:=by simp[World.setCell]
   have ha2:Ap (fun x=>B≤x∧¬ K1 x) w1 ((w1.setCell ⟨P,1,none⟩ (.slice (some ⟨go,0,none⟩) O.length capo)).setCell ⟨P,0,none⟩ (.slice (some ⟨gn,0,none⟩) (O.length + 1) capn)).drew:=(((Ap.refl _ w1).setCell (p:=⟨P,1,none⟩) ⟨HB.out.hP,HB.out.nK⟩ _).setCell (p:=⟨P,0,none⟩) ⟨HB.out.hP,HB.out.nK⟩ _).drew;have hPN:wr.heap.size ≠ P:=by omega
   have HPB2:=Lib.hid (show Blk _ wr.heap.size 53 _ from (hw2 wr.heap.size hPN).trans PB.out);generalize ((w1.setCell ⟨P,1,none⟩ (.slice (some ⟨go,0,none⟩) O.length capo)).setCell ⟨P,0,none⟩ (.slice (some ⟨gn,0,none⟩) (O.length + 1) capn)).drew=w2 at hw2 hB2 hs2 ha2 HPB2 ⊢;rw[show O.length + 1=L.length + 1 by omega] at hB2;obtain⟨hb2,hva2,hra2,hfc2,hfl2⟩:=HPOP.out w2 hB2 (fun b q1 q2=>(hw2 b q2).trans (HAL.out.block b q1)) (Nat.le_trans HAL.out.size hs2);have HBULK:=Lib.hid hbb;have hput:=tr_put hb2 n a [] f _ hva2 ao cap xsf hra2 hfc2 hfl2 hbb (by omega);have HPUT:=Lib.hid hput;have p0:w2.cell? ⟨wr.heap.size,0,none⟩=some (.string (st n)):=Blk.cell HPB2.out 0;have p1:w2.cell? ⟨wr.heap.size,1,none⟩=some (.slice aoa a.length capa):=Blk.cell HPB2.out 1;have p2:w2.cell? ⟨wr.heap.size,2,none⟩=some (.string (st [])):=Blk.cell HPB2.out 2;have p3:w2.cell? ⟨wr.heap.size,3,none⟩=some (.slice ao f.len cap):=Blk.cell HPB2.out 3;have HA2:=Lib.hid (((HAP.out.trans (Ap.of_below HAL.out)).trans (ha2.sub fun x q=>⟨q.1,fun e=>q.2 (hK1 x e)⟩)));clear hput hb2 hva2 hra2 hfc2 hfl2 hB2 hw2 ha2 hs2 c0' c1' g0' g1' PP PB HPOP hbb;go_wp2_with fail;refine HPUT.out.mono ?_;rintro e w3 ⟨rfl,⟨ns3,hb3⟩,ha3⟩;have HR3:Hid (BldR B P K c.pop w w3):=by
    have hbs:BldS w3 B P (KU K1 (.slice ao f.len cap)) c.pop:=by
     unfold BldS;rw[HL2.out,HO2.out];exact⟨_,_,_,_,hb3⟩
    exact⟨KU K1 (.slice ao f.len cap),fun x q=>.inl (hK1 x q),hbs,HA2.out.trans (ha3.sub fun x q=>⟨q.1,fun e=>q.2 (.inl (hK1 x e))⟩)⟩
   have HO3:Hid (q87 w3 P=O.length):=by
    show _=_;unfold q87;rw[show w3.cell? ⟨P,1,none⟩=_ from Blk.cell hb3.blk 1];rfl
   clear hb3 ha3 HPUT p0 p1 p2 p3 HA2;go_wp2_with fail;go_roundw
   case rel=>exact⟨c.pop,⟨HR3.out,by rw[← hcn];exact hcl2⟩,by omega,by omega⟩
   case measure=>have h1:=HO3.out;have h2:=HOW.out;rw[h1,h2];omega
  ·obtain⟨aoo,capo,hvo⟩:=Y1 hb.ro
   subst hvo;have c1:wr.cell? ⟨P,1,none⟩=some (.slice aoo c.ops.length capo):=Blk.cell hb.blk 1;have hce:c.close many=c:=by
    show Mk.Bld.z2c _ c=c;have h1:=c.z6d;rw[show c.open_.length - many=0 by omega];rfl
   have HFIN:Hid (BldR B P K (b.close many) w wr):=⟨K1,hK1,⟨_,_,_,_,by rw[← hcl2,hce];exact hb⟩,hap⟩;clear hb hap hcl2 hce hK1;go_wp2_with fail;go_end0;exact⟨rfl,HFIN.out⟩
theorem Tryz.infoStr:(Tryz.prog.info? 9).map (fun i=>(i.zero,i.size,i.bytes))=some (some (.string ⟨#[]⟩),1,16):=by kernel_rfl
theorem z1d.of_own {w:World} {K:Nat→Prop} {B:Nat} {e:TypeId} {v:Value} {l:List (List UInt8)} (h:w.ownsRow B e 1 v l.length (z0f l)) (hK:∀ g,v.ownBlock=some g→K g):z1d w K v l:=by
 rcases h.2 with ⟨hv,hn⟩ | ⟨g,cap,cur,hv,_,hh,hnc,hcm,hcs,ht⟩
 ·have:l=[]:=List.eq_nil_of_length_eq_zero hn
  subst this;exact⟨none,0,hv,Nat.le_refl _,.inl rfl,Nat.zero_le _⟩
 ·obtain⟨ao,cap',h1,h2,h3,h4⟩:=z2e.of_own h hK
  rw[hv] at h1;injection h1 with e1 e2 e3;subst e1;subst e3;exact⟨_,_,hv,hnc,h2,hcm⟩
theorem tr_Clone (l:List (List UInt8)) (v:Value) (K:Nat→Prop) (w:World) (hv:z1d w K v l) (hl:l.length≤33554432) :
  Calls Tryz.prog 141 #[v] w fun e w'=>∃ v',e=.returned v'∧w'.ownsRow w.heap.size 9 1 v' l.length (z0f l)∧Below w.heap.size w w':=by
 obtain⟨ao,cap,rfl,hcap,hcm,hat⟩:=hv.at_
 rcases hat with h0 | ⟨g,o,rfl,_,hc⟩
 ·subst h0
  cases ao with
  | none =>
   refine(Tryz.slices_Clone_string_nil 0 cap w).mono ?_;rintro e w' ⟨rfl,rfl⟩;exact⟨_,rfl,World.ownsRow_nil _ _ _ _,Below.refl _ _⟩
  | some a =>
   refine(Tryz.slices_Clone_string_zero a cap w).mono ?_;rintro e w' ⟨v',rfl,h1,_,h2⟩;exact⟨_,rfl,h1,h2⟩
 ·refine(Tryz.slices_Clone_string g o l.length cap (l.map st) w (by simp) (by omega) (fun j hj=>?_)).mono ?_
  ·have hj':j < l.length:=by simpa using hj
   rw[hc j hj'];simp[List.getD,List.getElem?_eq_getElem hj']
  ·rintro e w' ⟨v',rfl,h1,_,h2⟩
   refine⟨_,rfl,?_,h2⟩;have:((l.map st).take l.length).map Value.string=z0f l:=by
    rw[List.take_of_length_le (by simp),List.map_map];rfl
   rwa [this] at h1
def prevOf (w:World) (g o:Nat) (k:Nat) (prev:Bool):Prop:=match k with | 0=>prev=false | j + 1=>∃ pn:List UInt8,w.cell? ⟨g,o + j * 4,none⟩=some (.string (st pn))∧prev=decide (pn=[])
theorem V5 (names:List (List UInt8)) (prev:Bool) (n:List UInt8) (a:List Mk.At) (t:List UInt8) (k r:Mk.Fo):Mk.Q8 (.node n a t k r) names prev=if Mk.z0t names n a t k ≠ 0 then Mk.z0t names n a t k else if n=[]∧prev=true then 4 else if Mk.Q8 k (names++[n]) false ≠ 0 then Mk.Q8 k (names++[n]) false else Mk.Q8 r names (decide (n=[])):=rfl
theorem tr_check (N:Nat):∀ (f:Mk.Fo) (names:List (List UInt8)) (v vn:Value) (K:Nat→Prop) (w:World),f.bulk < N→names.length + f.bulk≤33554432→FoV w K v f→z1d w K vn names→(∀ b,K b→b < w.heap.size) →
  Calls Tryz.prog 131 #[v,vn] w fun e w'=>e=.returned (.int .i64 (Mk.Q8 f names false))∧Below w.heap.size w w':=by
 induction N with
 | zero=>intro f names v vn K w hN;omega
 | succ N ih =>
  intro f names v vn K w hN hbk hv hvn hK;obtain⟨g,o,cap,hv1,hlen,hat⟩:=hv.at_
  have HAT:=Lib.hid hat
  clear hat
  have hfl:=Mk.Fo.z0k f;have hst:∀ l:List UInt8,(st l).toList=l:=fun l=>Lib.toList_data _
  rcases hv1 with ⟨hv1,hKg⟩ | ⟨ao,hv1,hnil⟩
  ·have hgl:=hK g hKg
   subst hv1;go_enter Tryz.func131,Tryz.ntmps131;go_wp2_with fail
   go_loopw [11] (fun i wr=>∃ (k:Nat) (prev:Bool),k≤f.len∧i=.int .i64 k∧Hid (Mk.Q8 f names false=Mk.Q8 (f.drop k) names prev)∧Hid (prevOf w g o k prev)∧Hid (Below w.heap.size w wr)) (fun i _=>f.len - (intOf i).toNat)
   case atStart=>exact⟨0,false,Nat.zero_le _,rfl,by show _=_;rw[Mk.Fo.drop_zero],rfl,Below.refl _ _⟩
   case round =>
    obtain⟨k,prev,hk,rfl,HA,HP,BL⟩:=hrel;have hsz:=BL.out.size
    by_cases hlt:k < f.len
    ·obtain⟨n,a,t,kk,r,hd,hd1⟩:=Mk.Fo.z3a f k hlt
     obtain⟨va,vk,c0,c1,c2,c3,hva,hvk⟩:=HAT.out k n a t kk r hd;have hprev2:prevOf w g o (k + 1) (decide (n=[])):=⟨n,c0,rfl⟩;have HP2:=Lib.hid hprev2;rw[← BL.out.cell (p:=⟨g,_,none⟩) hgl] at c0 c1 c2 c3;have hdb:=Mk.Fo.z0s f k;rw[hd] at hdb;have hkb:kk.bulk + r.bulk + n.length + Mk.Fo.atB a + 1≤f.bulk:=by
      have e:(Mk.Fo.node n a t kk r).bulk=1 + n.length + t.length + Mk.Fo.atB a + kk.bulk + r.bulk:=rfl;omega
     have HD:Hid (Mk.Q8 f names false=if Mk.z0t names n a t kk ≠ 0 then Mk.z0t names n a t kk else if n=[]∧prev=true then 4 else if Mk.Q8 kk (names++[n]) false ≠ 0 then Mk.Q8 kk (names++[n]) false else Mk.Q8 (f.drop (k + 1)) names (decide (n=[]))):=by
      show _=_;rw[HA.out,hd,hd1,V5]
     obtain⟨aoa,capa,hva1,hva2⟩:=id hva;obtain⟨aok,capk,xsk,hvk1,hvk2⟩:=id hvk;subst hva1;subst hvk1;have hal:=(Below.refl wr.heap.size wr).alloc (Nat.le_refl _) (.cells #[.string (st n),.slice aoa a.length capa,.string (st t),.slice aok kk.len capk] 53);have BL1:=Lib.hid (BL.out.trans (hal.mono hsz));have PB1:=Lib.hid (Blk.new wr 53 #[.string (st n),.slice aoa a.length capa,.string (st t),.slice aok kk.len capk]);have hnd:=tr_node names n t a kk (.slice aoa a.length capa) (.slice aok kk.len capk) vn K (wr.alloc (.cells #[.string (st n),.slice aoa a.length capa,.string (st t),.slice aok kk.len capk] 53)) (hva.below hK BL1.out) (hvk.below hK BL1.out) (hvn.below hK BL1.out) (fun b hb=>Nat.lt_of_lt_of_le (hK b hb) BL1.out.size) (by omega) (by omega) (by omega);unfold V4 at hnd;generalize Mk.z0t names n a t kk=ce at hnd HD;have HND:=Lib.hid hnd;have HVK:=Lib.hid hvk;clear HAT hal hd hd1 hnd HA hva2 hvk2 hva hvk;go_wp2_with fail;refine HND.out.mono ?_;rintro e w2 ⟨rfl,hb2⟩;have BL2:=Lib.hid (BL1.out.trans (hb2.mono BL1.out.size));have PB2:=Lib.hid (Blk.below PB1.out hb2 (Blk.lt PB1.out));clear hb2 HND BL1 PB1 BL
     by_cases hc0:ce=0
     ·subst hc0
      have HD2:Hid (Mk.Q8 f names false=if n=[]∧prev=true then 4 else if Mk.Q8 kk (names++[n]) false ≠ 0 then Mk.Q8 kk (names++[n]) false else Mk.Q8 (f.drop (k + 1)) names (decide (n=[]))):=by show _=_;rw[HD.out];simp
      clear HD;have p0:w2.cell? ⟨wr.heap.size,0,none⟩=some (.string (st n)):=Blk.cell PB2.out 0;have p3:w2.cell? ⟨wr.heap.size,3,none⟩=some (.slice aok kk.len capk):=Blk.cell PB2.out 3;have hen:n=[]∨n.isEmpty=false:=by
       cases n with
       | nil=>exact .inl rfl
       | cons _ _=>exact .inr rfl
      have HEN:=Lib.hid hen;clear hen c0 c1 c2 c3;go_upto_region 7 with fail
      go_cut [37] (fun b wx=>b=.bool (decide (n=[]) && prev)∧w2=wx)
      case first =>
       rcases Nat.eq_zero_or_pos k with h0 | h0
       ·have hpf:prev=false:=by have:=HP.out;subst h0;exact this
        have hk0:¬ 0 < k:=by omega
        clear h0;have HPF:=Lib.hid hpf;clear hpf;go_wp2_with fail;go_meet
        case rel=>exact⟨by rw[HPF.out,Bool.and_false],rfl⟩
       ·obtain⟨j,hj⟩:∃ j,k=j + 1:=⟨k - 1,by omega⟩
        have hpp:∃ pn:List UInt8,w.cell? ⟨g,o + j * 4,none⟩=some (.string (st pn))∧prev=decide (pn=[]):=by have:=HP.out;subst hj;exact this
        obtain⟨pn,hpc,hpe⟩:=hpp;rw[← BL2.out.cell (p:=⟨g,_,none⟩) hgl] at hpc;have hkj:(k:Int) - 1=j:=by omega
        have hj0:(0:Int)≤j:=by omega
        have hjl:(j:Int) < f.len:=by omega
        have HPE:=Lib.hid hpe;have hpn:pn=[]∨pn.isEmpty=false:=by
         cases pn with
         | nil=>exact .inl rfl
         | cons _ _=>exact .inr rfl
        clear hj hpe
        rcases HEN.out with hn | hn
        ·have hne:n.isEmpty=true:=by rw[hn];rfl
         have HN:=Lib.hid hn;clear hn
         rcases hpn with hp | hp
         ·have hpe:pn.isEmpty=true:=by rw[hp];rfl
          have HPN:=Lib.hid hp;clear hp;go_wp2_with fail;go_meet
          case rel=>exact⟨by rw[HPE.out,HN.out,HPN.out];rfl,rfl⟩
         ·have HPN:=Lib.hid (show pn ≠ [] by rintro rfl;cases hp)
          go_wp2_with fail;go_meet
          case rel=>exact⟨by rw[HPE.out,decide_eq_false HPN.out,Bool.and_false],rfl⟩
        ·have HN:=Lib.hid (show n ≠ [] by rintro rfl;cases hn)
         clear hpn;go_wp2_with fail;go_meet
         case rel=>exact⟨by rw[decide_eq_false HN.out,Bool.false_and],rfl⟩
      case rest =>
       obtain⟨rfl,hw⟩:=hcut;subst hw
       cases hb:(decide (n=[]) && prev) with
       | true =>
        have HE:Hid (Mk.Q8 f names false=4):=by
         show _=_;rw[HD2.out,if_pos];rw[Bool.and_eq_true] at hb;exact⟨of_decide_eq_true hb.1,hb.2⟩
        clear hb HD2;go_wp2_with fail;go_ret;exact⟨Y8 (by rw[HE.out]),BL2.out⟩
       | false =>
        have HD3:Hid (Mk.Q8 f names false=if Mk.Q8 kk (names++[n]) false ≠ 0 then Mk.Q8 kk (names++[n]) false else Mk.Q8 (f.drop (k + 1)) names (decide (n=[]))):=by
         show _=_;rw[HD2.out,if_neg];rintro ⟨q1,q2⟩;rw[decide_eq_true q1,q2] at hb;cases hb
        clear hb HD2 HP HEN;go_upto_region 9 with fail;have hsz2:=BL2.out.size;have hwz:wr.heap.size < w2.heap.size:=Blk.lt PB2.out;have hfr:∀ W,Below w2.heap.size w2 W→W.cell? ⟨wr.heap.size,0,none⟩=some (.string (st n))∧W.cell? ⟨wr.heap.size,3,none⟩=some (.slice aok kk.len capk):=fun W hW=>⟨(hW.cell (p:=⟨wr.heap.size,0,none⟩) hwz).trans p0,(hW.cell (p:=⟨wr.heap.size,3,none⟩) hwz).trans p3⟩
        have HFR:=Lib.hid hfr;have hcl:∀ W,Below w2.heap.size w2 W→Calls Tryz.prog 141 #[vn] W fun e w'=>∃ v',e=.returned v'∧w'.ownsRow W.heap.size 9 1 v' names.length (z0f names)∧Below W.heap.size W w':=fun W hW=>tr_Clone names vn K W (hvn.below hK (BL2.out.trans (hW.mono hsz2))) (by omega)
        have HCL:=Lib.hid hcl;have hrc:∀ W v9,Below w2.heap.size w2 W→z1d W (fun b=>b < W.heap.size) v9 (names++[n])→Calls Tryz.prog 131 #[.slice aok kk.len capk,v9] W fun e w'=>e=.returned (.int .i64 (Mk.Q8 kk (names++[n]) false))∧Below W.heap.size W w':=by
         intro W v9 hW hs9;have hb0:=BL2.out.trans (hW.mono hsz2);exact ih kk (names++[n]) _ v9 (fun b=>b < W.heap.size) W (by omega) (by rw[List.length_append,List.length_singleton];omega) ((HVK.out.below hK hb0).frame (fun b hb=>⟨Nat.lt_of_lt_of_le (hK b hb) hb0.size,rfl⟩)) hs9 (fun _ h=>h)
        have HRC:=Lib.hid hrc;generalize Mk.Q8 kk (names++[n]) false=cr at HD3 HRC;obtain⟨i0,hi,hz0,hz1,hz2⟩:=info_parts Tryz.infoStr;have hnl9:names.length≤33554432:=by omega
        clear hfr hcl hrc hdb hkb
        go_region_held3 (fun w'=>w'.cell? ⟨wr.heap.size,0,none⟩=some (.string (st n))∧w'.cell? ⟨wr.heap.size,3,none⟩=some (.slice aok kk.len capk)) (first
         | exact HFR.out _ hB10
         | exact HFR.out _ hB9
         | exact HFR.out _ (hB7.alloc hB7.size _)
         | exact HFR.out _ hB7
         | exact HFR.out _ ((Below.refl _ _).drew)
         | exact HFR.out _ (((Below.refl _ _).drew).alloc (Nat.le_refl _) _)) (first | (go_at_call 141;refine(HCL.out _ ?_).mono ?_;(first | exact(Below.refl _ _).drew | exact((Below.refl _ _).drew).alloc (Nat.le_refl _) _);rintro e w7 ⟨v7,rfl,ow7,hb7⟩;have hB7:Below w2.heap.size w2 w7:=(by first | exact((Below.refl _ _).drew).trans (hb7.mono (Nat.le_refl _)) | exact(((Below.refl _ _).drew).alloc (Nat.le_refl _) _).trans (hb7.mono (by simp)));(try (have n0:w7.cell? ⟨w2.heap.size,0,none⟩=some (.string (st n)):=(hb7.cell (p:=⟨w2.heap.size,0,none⟩) (by simp)).trans (Blk.cell (Blk.new w2.drew 9 #[.string (st n)]) 0)))) | (refine X5 rfl (.tmp 41) (.tmp 44) 24 rfl w2.drew.heap.size 9 i0 (.string ⟨#[]⟩) 1 16 Tryz.underlying24 hi hz0 hz1 hz2 rfl (by decide) v7 names.length (z0f names) (by simp[Act.eval,Act.put]) (z04 ow7 ((Ap.refl (fun _=>False) w7).alloc (.cells #[.string (st n)] 9)) (fun _ _ q=>q)) ⟨w7.heap.size,0,none⟩ 1 1 [.string (st n)] (by simp[Act.eval,Act.put]) rfl (cell_one_new _ _ _) (one_cell _ rfl) (by decide) (by unfold maxLen;omega) (by omega) (by have:=hB7.size;simp;omega) ?_;intro v9 w9 hown9 hg9 hf9;have hB9:Below w2.heap.size w2 w9:=((hB7.alloc hB7.size (.cells #[.string (st n)] 9)).grown hg9 (by have:=hB7.size;simp;omega) (fun k9 hk9=>(ow7.lt k9 hk9).1));have SV9:z1d w9 (fun b=>b < w9.heap.size) v9 (names++[n]):=z1d.of_own (B:=w2.heap.size) (e:=9) (by rw[List.length_append,show z0f (names++[n])=z0f names++[.string (st n)] by simp[z0f]];exact⟨hown9.1,hown9.2.imp id (fun ⟨g9,c9,r9,h1,h2,h3⟩=>⟨g9,c9,r9,h1,Nat.le_trans (Nat.le_refl _) h2,h3⟩)⟩) (fun g9 hg9'=>(hown9.lt g9 hg9').2);obtain⟨ao9,cap9,rfl⟩:=Y1 hown9) | (refine X5 rfl (.tmp 41) (.tmp 44) 24 rfl (w2.drew.alloc (.cells #[.string (st n)] 9)).heap.size 9 i0 (.string ⟨#[]⟩) 1 16 Tryz.underlying24 hi hz0 hz1 hz2 rfl (by decide) v7 names.length (z0f names) (by simp[Act.eval,Act.put]) ow7 ⟨w2.heap.size,0,none⟩ 1 1 [.string (st n)] (by simp[Act.eval,Act.put]) rfl (fun j9 u9 h9=>by have e9:j9=0:=(by have q:=(List.getElem?_eq_some_iff.1 h9).1;simp at q;exact q);subst e9;have h9':Value.string (st n)=u9:=(by simpa using h9);rw[← h9'];exact n0) (one_cell _ rfl) (by decide) (by unfold maxLen;omega) (by omega) (by have:=hb7.size;simpa using this) ?_;intro v9 w9 hown9 hg9 hf9;have hB9:Below w2.heap.size w2 w9:=(hB7.grown hg9 hB7.size (fun k9 hk9=>Nat.le_trans (by simp) (ow7.lt k9 hk9).1));have SV9:z1d w9 (fun b=>b < w9.heap.size) v9 (names++[n]):=z1d.of_own (B:=w2.heap.size) (e:=9) (by rw[List.length_append,show z0f (names++[n])=z0f names++[.string (st n)] by simp[z0f]];exact⟨hown9.1,hown9.2.imp id (fun ⟨g9,c9,r9,h1,h2,h3⟩=>⟨g9,c9,r9,h1,Nat.le_trans (by simp) h2,h3⟩)⟩) (fun g9 hg9'=>(hown9.lt g9 hg9').2);obtain⟨ao9,cap9,rfl⟩:=Y1 hown9) | (go_at_call 131;refine(HRC.out _ _ hB9 SV9).mono ?_;rintro e w10 ⟨rfl,hb10⟩;have hB10:=hB9.trans (hb10.mono hB9.size)))
        all_goals
         have BL10:=Lib.hid (BL2.out.trans (hB10.mono hsz2));clear hB10 hB9 hB7 SV9 HRC HCL HFR
         by_cases hr0:cr=0
         ·subst hr0
          have HA4:Hid (Mk.Q8 f names false=Mk.Q8 (f.drop (k + 1)) names (decide (n=[]))):=by show _=_;rw[HD3.out];simp
          clear HD3;go_wp2_with fail;go_roundw
          case rel=>exact⟨k + 1,decide (n=[]),by omega,by go_num,HA4,HP2,BL10⟩
          case measure=>simp[intOf];omega
         ·have hr1:(cr == 0)=false:=beq_eq_false_iff_ne.2 hr0
          go_wp2_with fail;go_ret;exact⟨Y8 (by rw[HD3.out,if_pos hr0]),BL10.out⟩
     ·have hc1:(ce == 0)=false:=beq_eq_false_iff_ne.2 hc0
      go_wp2_with fail;go_ret;exact⟨Y8 (by rw[HD.out,if_pos hc0]),BL2.out⟩
    ·have hke:k=f.len:=by omega
     have HE:Hid (Mk.Q8 f names false=0):=by show _=_;rw[HA.out,hke,Mk.Fo.z2q];rfl
     clear HA HAT;go_wp2_with fail;go_ret;exact⟨Y8 HE.out.symm,BL.out⟩
  ·subst hnil
   subst hv1;clear HAT;go_enter Tryz.func131,Tryz.ntmps131;go_wp2_with fail
   go_loopw [11] (fun i wr=>i=.int .i64 0∧wr=w) (fun _ _=>0)
   case atStart=>exact⟨rfl,rfl⟩
   case round =>
    obtain⟨rfl,rfl⟩:=hrel;go_wp2_with fail;go_ret;exact⟨rfl,Below.refl _ _⟩
theorem j2t (f:Mk.Fo) (v:Value) (K:Nat→Prop) (w:World) (hf:f.bulk≤33554432) (hv:FoV w K v f) (hK:∀ b,K b→b < w.heap.size) :
  Calls Tryz.prog 80 #[v] w fun e w'=>e=.returned (.int .i64 (Mk.z4x f))∧Below w.heap.size w w':=by
 have HS:=Lib.hid (tr_Size (f.bulk + 1) f 8 v K w (Nat.lt_succ_self _) hf (Nat.le_refl _) hv hK);have HV:=Lib.hid hv;obtain⟨ao,cap,xs,hv1,_⟩:=hv;subst hv1;have hsb:=Mk.q0a 8 f;have hc:Mk.z4x f=if 3000 < (Mk.z0u 8 f).1∨8 < (Mk.z0u 8 f).2 then 2 else Mk.Q8 f [] false:=rfl
 obtain⟨y,hy⟩:∃ y,Mk.z0u 8 f=y:=⟨_,rfl⟩;rw[hy] at HS hc hsb;obtain⟨y1,y2⟩:=y;simp only at HS hc hsb;have HC:=Lib.hid hc;clear hc hy;have hst0:(3000:Int)=3000:=rfl;clear hst0;go_enter Tryz.func80,Tryz.ntmps80;go_wp2_with fail;refine HS.out.mono ?_;rintro e w1 ⟨rfl,hb1⟩;have L1:=Lib.hid hb1;clear HS hb1
 by_cases h1:3000 < y1
 ·have h1':(3000:Int) < y1:=by omega
  go_wp2_with fail
  all_goals (go_ret;exact⟨Y8 (by rw[HC.out,if_pos (.inl h1)]),L1.out⟩)
 ·have h1':¬ (3000:Int) < y1:=by omega
  by_cases h2:8 < y2
  ·have h2':(8:Int) < y2:=by omega
   go_wp2_with fail
   all_goals (go_ret;exact⟨Y8 (by rw[HC.out,if_pos (.inr h2)]),L1.out⟩)
  ·have h2':¬ (8:Int) < y2:=by omega
   have HK:=Lib.hid (tr_check (f.bulk + 1) f [] (.slice ao f.len cap) (.slice none 0 0) K w1 (Nat.lt_succ_self _) (by simpa using hf) (HV.out.below hK L1.out) (z1d.nil _ _) (fun b hb=>Nat.lt_of_lt_of_le (hK b hb) L1.out.size));go_wp2_with fail;refine HK.out.mono ?_;rintro e w2 ⟨rfl,hb2⟩;have L2:=Lib.hid (L1.out.trans (hb2.mono L1.out.size));clear HK hb2;go_wp2_with fail
   all_goals (go_ret;exact⟨Y8 (by rw[HC.out,if_neg (by rintro (q | q);exact h1 q;exact h2 q)]),L2.out⟩)
end Go.Proofs.YtjonkbdldebkiaaGreatDoor
