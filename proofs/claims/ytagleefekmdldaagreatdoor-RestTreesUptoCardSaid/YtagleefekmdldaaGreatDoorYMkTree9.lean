/- Contract of the program's close of a tree's builder: all that are open but so many. Condition: at most 1099511627776 nodes, attributes and letters together. -/
import Derived.Test.YtagleefekmdldaaGreatDoorYMkSame
import Derived.Test.YtagleefekmdldaaGreatDoorYMkTok5
import Derived.Deep.RegionWith
set_option linter.unusedVariables false
set_option linter.unusedSimpArgs false
set_option maxHeartbeats 8000000
set_option maxRecDepth 100000
namespace Go.Proofs.YtagleefekmdldaaGreatDoor
open Go.Proofs.Tryz Go.RowKit
section
variable {w w2 : World} {B P : Nat} {K : Nat→Prop} {L : List Mk.Fo} {f f' : Mk.Fo} {O : List (Mk.Bs × List Mk.At)} {n : List UInt8} {a : List Mk.At} {vn vo : Value} {ns xo : List Value}
theorem q9e {size m nn cap g:Nat} {e:TypeId} {xs:List Value} (h:w.ownsRow B e size (.slice (some ⟨g,0,none⟩) nn cap) nn xs) (hm:m≤nn):w.ownsRow B e size (.slice (some ⟨g,0,none⟩) m cap) m (xs.take (m * size)):=by
 have hle:m * size≤nn * size:=Nat.mul_le_mul_right _ hm;refine⟨by rw[List.length_take,h.1];omega,?_⟩
 rcases h.2 with ⟨hv,_⟩ | ⟨g',cap',cur,hv,hb,hh,hnc,hcm,hcs,ht⟩
 ·cases hv
 ·injection hv with e1 e2 e3
  injection e1 with e1;injection e1 with e1;subst e1;subst e3;refine .inr ⟨g,cap,cur,rfl,hb,hh,by omega,hcm,hcs,?_⟩;rw[← ht,List.take_take,Nat.min_eq_left hle]
def KU (K:Nat→Prop) (v:Value) (b:Nat):Prop:=K b∨v.ownBlock=some b
theorem BldV.popped (h:BldV w B P K (L++[f',f]) (O++[(n,a)]) vn vo ns xo):∃ gn capn go capo aoa capa ao cap xsf ys,vn=.slice (some ⟨gn,0,none⟩) (L.length + 2) capn∧vo=.slice (some ⟨go,0,none⟩) (O.length + 1) capo∧L.length + 2≤capn∧O.length + 1≤capo ∧
  w.cell? ⟨go,O.length * 4,none⟩=some (.string (st n))∧w.cell? ⟨go,O.length * 4 + 1,none⟩=some (.slice aoa a.length capa)∧w.cell? ⟨go,O.length * 4 + 2,none⟩=some (.string (st []))∧w.cell? ⟨go,O.length * 4 + 3,none⟩=some (.slice none 0 0)∧w.cell? ⟨gn,L.length + 1,none⟩=some (.slice ao f.len cap)∧go ≠ P∧gn ≠ P∧go < w.heap.size∧gn < w.heap.size ∧
  ∀ w2:World,Blk w2 P 92 #[.slice (some ⟨gn,0,none⟩) (L.length + 1) capn,.slice (some ⟨go,0,none⟩) O.length capo]→(∀ b,b < w.heap.size→b ≠ P→w2.heap[b]? = w.heap[b]?)→w.heap.size≤w2.heap.size →
   BldV w2 B P (KU K (.slice ao f.len cap)) (L++[f']) O (.slice (some ⟨gn,0,none⟩) (L.length + 1) capn) (.slice (some ⟨go,0,none⟩) O.length capo) (ns.take (L.length + 1)) ys∧AtsV w2 (KU K (.slice ao f.len cap)) (.slice aoa a.length capa) a∧z1v w2 (KU K (.slice ao f.len cap)) ao xsf∧Y0 w2 (KU K (.slice ao f.len cap)) f xsf∧f.len≤maxLen:=by
 have hnl:=h.nlen;have hrn:=h.rn;have hro:=h.ro;simp only [List.length_append,List.length_cons,List.length_nil] at hnl hrn hro;have e0:∀ g j,(⟨g,0,none⟩:Addr).add j=⟨g,j,none⟩:=by intro g j;unfold Addr.add;split <;> simp_all
 obtain⟨va,ys,hxo,hva,hoc⟩:=h.oc.last;obtain⟨aoa,capa,hva1,hva2⟩:=id hva;subst hva1;have hyl:=hoc.length
 rcases hrn.2 with ⟨_,q⟩ | ⟨gn,capn,curn,hvn,hbn,hhn,hncn,hcmn,hcsn,htn⟩
 ·omega
 rcases hro.2 with ⟨_,q⟩ | ⟨go,capo,curo,hvo,hbo,hho,hnco,hcmo,hcso,hto⟩
 ·omega
 have hvn:vn=.slice (some ⟨gn,0,none⟩) (L.length + 2) capn:=hvn;have hvo:vo=.slice (some ⟨go,0,none⟩) (O.length + 1) capo:=hvo;subst hvn;subst hvo;have kn:(Value.slice (some ⟨gn,0,none⟩) (L.length + 2) capn).ownBlock=some gn:=rfl;have ko:(Value.slice (some ⟨go,0,none⟩) (O.length + 1) capo).ownBlock=some go:=rfl;have hcn:=hrn.cells (g:=gn) rfl;have hco:=hro.cells (g:=go) rfl;have hi:L.length + 1 < ns.length:=by omega
 have hv1:ns[L.length + 1]? = some ns[L.length + 1]:=List.getElem?_eq_getElem hi;have hf1:(L++[f',f])[L.length + 1]? = some f:=by rw[List.getElem?_append_right (by omega)];simp
 obtain⟨xsf,hof⟩:=h.fo _ f _ hf1 hv1;obtain⟨ao,cap,hu⟩:=Y1 hof.own;rw[hu] at hv1 hof;have hfl:f.len≤maxLen:=by
  obtain⟨_,_,_,_,_,q⟩:=z1v.of_own (K:=fun _=>True) hof.own (fun _ _=>trivial);exact q
 have hd:=h.df (L.length + 1) (.slice ao f.len cap);have ho:∀ i u,[Value.string (st n),.slice aoa a.length capa,.string (st []),.slice none 0 0][i]? = some u→w.cell? ⟨go,O.length * 4 + i,none⟩=some u:=by
  intro i u q;have:=hco (O.length * 4 + i) u (by rw[hxo,List.getElem?_append_right (by omega),hyl];simpa using q)
  rwa [e0] at this
 have hgnP:=(h.dn gn kn).1;have hgoP:=(h.do_ go ko).1;refine⟨gn,capn,go,capo,aoa,capa,ao,cap,xsf,ys,rfl,rfl,by omega,by omega,ho 0 _ rfl,ho 1 _ rfl,ho 2 _ rfl,ho 3 _ rfl,by have:=hcn _ _ hv1;rwa [e0] at this,hgoP,hgnP,(hro.lt go ko).2,(hrn.lt gn kn).2,?_⟩;intro w2 hP hb hs;have hKb:∀ b,K b→w2.heap[b]? = w.heap[b]?:=fun b q=>hb b (h.kle b q).2 (fun e=>h.nK (e ▸ q))
 have kp:∀ b,K b→KU K (.slice ao f.len cap) b∧w2.heap[b]? = w.heap[b]?:=fun b q=>⟨.inl q,hKb b q⟩
 have hvb:∀ g,(Value.slice ao f.len cap).ownBlock=some g→w2.heap[g]? = w.heap[g]?:=fun g e=>hb g (hof.own.lt g e).2 (hd g hv1 e).1
 have htk:∀ i:Nat,i < L.length + 1→(ns.take (L.length + 1))[i]? = ns[i]?:=fun i q=>by rw[List.getElem?_take];simp[q]
 have htk2:∀ (i:Nat) (v:Value),(ns.take (L.length + 1))[i]? = some v→i < L.length + 1∧ns[i]? = some v:=by
  intro i v q;rw[List.getElem?_take] at q
  split at q
  ·exact⟨by assumption,q⟩
  ·cases q
 refine⟨⟨hP,h.hP,?_,?_,?_,?_,?_,?_,?_,?_,?_⟩,hva.frame kp,?_,hof.cells.frame kp,hfl⟩
 ·rintro (q | q)
  ·exact h.nK q
  ·exact(hd P hv1 q).1 rfl
 ·rintro b (q | q)
  ·exact⟨(h.kle b q).1,Nat.lt_of_lt_of_le (h.kle b q).2 hs⟩
  ·exact⟨(hof.own.lt b q).1,Nat.lt_of_lt_of_le (hof.own.lt b q).2 hs⟩
 ·have:=q9e hrn (m:=L.length + 1) (by omega)
  rw[Nat.mul_one] at this;rw[List.length_append];exact z0f this (fun g e=>by injection e with e;rw[← e];exact hb gn (hrn.lt gn kn).2 hgnP)
 ·have:=q9e hro (m:=O.length) (by omega)
  rw[hxo,List.take_left' hyl] at this;exact z0f this (fun g e=>by injection e with e;rw[← e];exact hb go (hro.lt go ko).2 hgoP)
 ·exact hoc.frame kp
 ·intro i f1 v1 q1 q2
  obtain⟨hi1,q2⟩:=htk2 i v1 q2;have q3:(L++[f',f])[i]? = some f1:=by
   rw[show L++[f',f]=(L++[f'])++[f] by simp,List.getElem?_append_left (by simp;omega)];exact q1
  obtain⟨xs1,o⟩:=h.fo i f1 v1 q3 q2;have o1:=o.frame hs (fun b b1 b2=>by
   rcases b2 with b2 | b2
   ·exact hKb b b2
   ·exact hb b b1 (h.df i v1 b q2 b2).1)
  refine⟨xs1,o1.own,o1.cells.frame (fun b q=>⟨.inl q,rfl⟩),?_,?_⟩
  ·rintro g e (q | q)
   ·exact o1.ne g e q
   ·have:=(h.df i v1 g q2 e).2.2.2 _ _ hv1 q
    omega
  ·rintro b (q | q)
   ·exact o1.le b q
   ·exact Nat.lt_of_lt_of_le (hof.own.lt b q).2 hs
 ·intro g e
  have e:some gn=some g:=e;injection e with e;subst e;refine⟨hgnP,?_⟩;rintro (q | q)
  ·exact(h.dn gn kn).2 q
  ·exact(hd gn hv1 q).2.1 kn
 ·intro g e
  have e:some go=some g:=e;injection e with e;subst e;refine⟨hgoP,?_,fun q=>(h.do_ go ko).2.2 q⟩;rintro (q | q)
  ·exact(h.do_ go ko).2.1 q
  ·exact(hd go hv1 q).2.2.1 ko
 ·intro i v g q1 q2
  obtain⟨hi1,q1⟩:=htk2 i v q1;obtain⟨a1,a2,a3,a4⟩:=h.df i v g q1 q2;exact⟨a1,a2,a3,fun j u q3 q4=>a4 j u (htk2 j u q3).2 q4⟩
 ·obtain⟨ao',cap',hq,hr,_⟩:=z1v.of_own (K:=fun b=>(Value.slice ao f.len cap).ownBlock=some b) hof.own (fun g e=>e)
  injection hq with hq _ _;subst hq;exact hr.frame fun b q=>⟨.inr q,hvb b q⟩
end
def BldS (w:World) (B P:Nat) (K:Nat→Prop) (b:Mk.Bld):Prop:=∃ vn vo ns xo,BldV w B P K b.fos b.ops vn vo ns xo
def BldR (B P:Nat) (K:Nat→Prop) (b:Mk.Bld) (w w':World):Prop:=∃ K',(∀ x,K x→K' x)∧BldS w' B P K' b∧Ap (fun x=>B≤x∧¬ K x) w w'
theorem BldR.step {B P:Nat} {K K':Nat→Prop} {b:Mk.Bld} {w w1 w2:World} (hK:∀ x,K x→K' x) (ha:Ap (fun x=>B≤x∧¬ K x) w w1) (h:BldR B P K' b w1 w2):BldR B P K b w w2:=by
 obtain⟨K2,h1,h2,h3⟩:=h;exact⟨K2,fun x q=>h1 x (hK x q),h2,ha.trans (h3.sub fun x q=>⟨q.1,fun e=>q.2 (hK x e)⟩)⟩
theorem BldR.of {B P:Nat} {K:Nat→Prop} {b:Mk.Bld} {w w1:World} (h:BldS w1 B P K b) (ha:Ap (fun x=>B≤x∧¬ K x) w w1):BldR B P K b w w1:=⟨K,fun _ q=>q,h,ha⟩
theorem BldS.below {B P:Nat} {K:Nat→Prop} {b:Mk.Bld} {w w1:World} (h:BldS w B P K b) (hb:Below w.heap.size w w1):BldS w1 B P K b:=by
 obtain⟨vn,vo,ns,xo,h⟩:=h;exact⟨_,_,_,_,h.below hb⟩
theorem z3c {w w':World} {g:Nat} (h:w'.heap[g]? = w.heap[g]?) (o:Nat):w'.frozen? ⟨g,o,none⟩=w.frozen? ⟨g,o,none⟩:=by
 simp[World.frozen?,h]
def q6c (w:World) (P:Nat):Nat:=match w.cell? ⟨P,1,none⟩ with | some (.slice _ n _)=>n | _=>0
theorem q54 {w:World} {B P:Nat} {K:Nat→Prop} (b:Mk.Bld) (h:BldS w B P K b) (many:Nat) (hmany:many≤1048576) (hbk:b.bulk≤549755813888) (hl:b.ops.length≤1048576) :
  Calls prog 58 #[.pointer (some ⟨P,0,none⟩),.int .i64 many] w fun e w'=>e=.returned (.tuple #[])∧BldR B P K (b.close many) w w':=by
 have hst:∀ l:List UInt8,(st l).toList=l:=fun l=>Lib.toList_data _
 have H:=Ld h;clear h;go_enter func58,ntmps58;go_wp2_with fail
 go_loopw [] (fun wr=>∃ c:Mk.Bld,Hid (BldR B P K c w wr∧c.close many=b.close many)∧c.bulk≤549755813888∧c.ops.length≤1048576) (fun wr=>q6c wr P)
 case atStart=>exact⟨b,⟨BldR.of H.out (Ap.refl _ _),rfl⟩,hbk,hl⟩
 case round =>
  obtain⟨c,HR,hcb,hcl⟩:=hrel;obtain⟨⟨K1,hK1,⟨vn,vo,ns,xo,hb⟩,hap⟩,hcl2⟩:=HR.out;clear HR
  by_cases hlt:many < c.ops.length
  ·obtain⟨O,⟨n,a⟩,hO⟩:∃ O o,c.ops=O++[o]:=by
    rcases List.eq_nil_or_concat c.ops with q | ⟨O,o,q⟩
    ·rw[q] at hlt;simp at hlt
    ·exact⟨O,o,by simpa using q⟩
   obtain⟨L,f',f,hL,hL2,hO2⟩:=c.q8a O n a hO;have hcn:c.close many=(c.pop).close many:=by
    show Mk.Bld.z3z _ c=Mk.Bld.z3z _ c.pop;have h1:=c.z5a;have h2:=c.pop.z5a;have h3:=c.q4k;rw[show c.open_.length - many=(c.pop.open_.length - many) + 1 by omega,Mk.Bld.j0u]
   have hpl:=c.q4k;have hpb:=c.q9g;have hfl:=c.q7p;rw[hO,hL] at hfl;have hbb:f'.bulk + (1 + n.length + ([]:List UInt8).length + Mk.Fo.atB a + f.bulk)≤1099511627776:=by
    have:c.bulk=Mk.Bld.foB c.fos + Mk.Bld.opB c.ops:=rfl;rw[hL,hO,show L++[f',f]=L++[f']++[f] by simp,Mk.Bld.z4w,Mk.Bld.z4w,Mk.Bld.z4x,Mk.Bld.z4x,Mk.Bld.q88,Mk.Bld.q89] at this;simp only [List.length_nil];omega
   rw[hL,hO] at hb;obtain⟨gn,capn,go,capo,aoa,capa,ao,cap,xsf,ys,hvn,hvo,hcpn,hcpo,k0,k1,k2,k3,kn,hgoP,hgnP,hgol,hgnl,hpop⟩:=hb.popped;subst hvn;subst hvo;have hLO:L.length=O.length:=by simp at hfl;omega
   have hPl:=Blk.lt hb.blk;have c0:wr.cell? ⟨P,0,none⟩=some (.slice (some ⟨gn,0,none⟩) (L.length + 2) capn):=Blk.cell hb.blk 0;have c1:wr.cell? ⟨P,1,none⟩=some (.slice (some ⟨go,0,none⟩) (O.length + 1) capo):=Blk.cell hb.blk 1;have g0:wr.frozen? ⟨P,0,none⟩=false:=Blk.frozen hb.blk 0;have g1:wr.frozen? ⟨P,1,none⟩=false:=Blk.frozen hb.blk 1;have HPOP:=Ld hpop;have HB:=Ld hb;have HAP:=Ld hap;have hcl0:c.ops.length=O.length + 1:=by rw[hO];simp
   rw[hO] at hlt hcl;simp only [List.length_append,List.length_singleton] at hlt hcl;have hlt':(many:Int) < (O.length:Int) + 1:=by omega
   rw[hLO] at c0 kn;have HL2:=Ld hL2;have HO2:=Ld hO2;have HOW:Hid (q6c wr P=O.length + 1):=by
    show _=_;unfold q6c;rw[c1]
   clear hpop hb hap hfl hO hL hL2 hO2;go_upto_region 4 with fail;have PB:=Ld (Blk.new wr 38 #[.string (st n),.slice aoa a.length capa,.string (st []),.slice ao f.len cap]);have hAL:=(Below.refl wr.heap.size wr).alloc (Lr) (.cells #[.string (st n),.slice aoa a.length capa,.string (st []),.slice ao f.len cap] 38);have c0':=(hAL.cell (p:=⟨P,0,none⟩) hPl).trans c0;have c1':=(hAL.cell (p:=⟨P,1,none⟩) hPl).trans c1;have HAL:=Ld hAL;have g0':(wr.alloc (.cells #[.string (st n),.slice aoa a.length capa,.string (st []),.slice ao f.len cap] 38)).frozen? ⟨P,0,none⟩=false:=by rw[← g0];exact z3c (hAL.block P hPl) 0
   have g1':(wr.alloc (.cells #[.string (st n),.slice aoa a.length capa,.string (st []),.slice ao f.len cap] 38)).frozen? ⟨P,1,none⟩=false:=by rw[← g1];exact z3c (hAL.block P hPl) 1
   have PP:=Ld (show Blk (wr.alloc (.cells #[.string (st n),.slice aoa a.length capa,.string (st []),.slice ao f.len cap] 38)) P 92 _ from (hAL.block P hPl).trans HB.out.blk);clear c0 c1 g0 g1 k0 k1 k2 k3 kn hAL;have hs1:(O.length:Int)≤capo:=by omega
   have hs2:(O.length:Int) + 1≤capn:=by omega
   have hs3:(0:Int)≤(O.length:Int) + 1:=by omega
   generalize (wr.alloc (.cells #[.string (st n),.slice aoa a.length capa,.string (st []),.slice ao f.len cap] 38))=w1 at PB HAL c0' c1' g0' g1' PP ⊢
   go_region
   have hw2:∀ b,b ≠ P→((w1.setCell ⟨P,1,none⟩ (.slice (some ⟨go,0,none⟩) O.length capo)).setCell ⟨P,0,none⟩ (.slice (some ⟨gn,0,none⟩) (O.length + 1) capn)).drew.heap[b]? = w1.heap[b]?:=fun b q=>(Below.heap_setCell _ ⟨P,0,none⟩ _ b q).trans (Below.heap_setCell w1 ⟨P,1,none⟩ _ b q)
   have hB2:Blk ((w1.setCell ⟨P,1,none⟩ (.slice (some ⟨go,0,none⟩) O.length capo)).setCell ⟨P,0,none⟩ (.slice (some ⟨gn,0,none⟩) (O.length + 1) capn)).drew P 92 #[.slice (some ⟨gn,0,none⟩) (O.length + 1) capn,.slice (some ⟨go,0,none⟩) O.length capo]:=Blk.drew (Blk.set_ (Blk.set_ PP.out 1 _) 0 _);have hs2:w1.heap.size≤((w1.setCell ⟨P,1,none⟩ (.slice (some ⟨go,0,none⟩) O.length capo)).setCell ⟨P,0,none⟩ (.slice (some ⟨gn,0,none⟩) (O.length + 1) capn)).drew.heap.size:=by simp[World.setCell]
   have ha2:Ap (fun x=>B≤x∧¬ K1 x) w1 ((w1.setCell ⟨P,1,none⟩ (.slice (some ⟨go,0,none⟩) O.length capo)).setCell ⟨P,0,none⟩ (.slice (some ⟨gn,0,none⟩) (O.length + 1) capn)).drew:=(((Ap.refl _ w1).setCell (p:=⟨P,1,none⟩) ⟨HB.out.hP,HB.out.nK⟩ _).setCell (p:=⟨P,0,none⟩) ⟨HB.out.hP,HB.out.nK⟩ _).drew;have hPN:wr.heap.size ≠ P:=by omega
   have HPB2:=Ld (show Blk _ wr.heap.size 38 _ from (hw2 wr.heap.size hPN).trans PB.out);generalize ((w1.setCell ⟨P,1,none⟩ (.slice (some ⟨go,0,none⟩) O.length capo)).setCell ⟨P,0,none⟩ (.slice (some ⟨gn,0,none⟩) (O.length + 1) capn)).drew=w2 at hw2 hB2 hs2 ha2 HPB2 ⊢;rw[show O.length + 1=L.length + 1 by omega] at hB2;obtain⟨hb2,hva2,hra2,hfc2,hfl2⟩:=HPOP.out w2 hB2 (fun b q1 q2=>(hw2 b q2).trans (HAL.out.block b q1)) (Nat.le_trans HAL.out.size hs2);have HBULK:=Ld hbb;have hput:=tr_put hb2 n a [] f _ hva2 ao cap xsf hra2 hfc2 hfl2 hbb (by omega);have HPUT:=Ld hput;have p0:w2.cell? ⟨wr.heap.size,0,none⟩=some (.string (st n)):=Blk.cell HPB2.out 0;have p1:w2.cell? ⟨wr.heap.size,1,none⟩=some (.slice aoa a.length capa):=Blk.cell HPB2.out 1;have p2:w2.cell? ⟨wr.heap.size,2,none⟩=some (.string (st [])):=Blk.cell HPB2.out 2;have p3:w2.cell? ⟨wr.heap.size,3,none⟩=some (.slice ao f.len cap):=Blk.cell HPB2.out 3;have HA2:=Ld (((HAP.out.trans (Ap.of_below HAL.out)).trans (ha2.sub fun x q=>⟨q.1,fun e=>q.2 (hK1 x e)⟩)));clear hput hb2 hva2 hra2 hfc2 hfl2 hB2 hw2 ha2 hs2 c0' c1' g0' g1' PP PB HPOP hbb;go_wp2_with fail;refine HPUT.out.mono ?_;rintro e w3 ⟨rfl,⟨ns3,hb3⟩,ha3⟩;have HR3:Hid (BldR B P K c.pop w w3):=by
    have hbs:BldS w3 B P (KU K1 (.slice ao f.len cap)) c.pop:=by
     unfold BldS;rw[HL2.out,HO2.out];exact⟨_,_,_,_,hb3⟩
    exact⟨KU K1 (.slice ao f.len cap),fun x q=>.inl (hK1 x q),hbs,HA2.out.trans (ha3.sub fun x q=>⟨q.1,fun e=>q.2 (.inl (hK1 x e))⟩)⟩
   have HO3:Hid (q6c w3 P=O.length):=by
    show _=_;unfold q6c;rw[show w3.cell? ⟨P,1,none⟩=_ from Blk.cell hb3.blk 1];rfl
   clear hb3 ha3 HPUT p0 p1 p2 p3 HA2;go_wp2_with fail;go_roundw
   case rel=>exact⟨c.pop,⟨HR3.out,by rw[← hcn];exact hcl2⟩,by omega,by omega⟩
   case measure=>have h1:=HO3.out;have h2:=HOW.out;rw[h1,h2];omega
  ·obtain⟨aoo,capo,hvo⟩:=Y1 hb.ro
   subst hvo;have c1:wr.cell? ⟨P,1,none⟩=some (.slice aoo c.ops.length capo):=Blk.cell hb.blk 1;have hce:c.close many=c:=by
    show Mk.Bld.z3z _ c=c;have h1:=c.z5a;rw[show c.open_.length - many=0 by omega];rfl
   have HFIN:Hid (BldR B P K (b.close many) w wr):=⟨K1,hK1,⟨_,_,_,_,by rw[← hcl2,hce];exact hb⟩,hap⟩;clear hb hap hcl2 hce hK1;go_wp2_with fail;go_end0;exact⟨rfl,HFIN.out⟩
end Go.Proofs.YtagleefekmdldaaGreatDoor
namespace Mk
theorem j4w (l:Bs) (k:Nat):hereAt (l.drop k)=if z1y (l.drop (k + 1))=true then z2i (l.drop (k + 1)) else if (Mg.pre [60,47] (l.drop k) && z1y (l.drop (k + 2)))=true then z0y (l.drop (k + 2)) else if Mg.pre [60,33,45,45] (l.drop k)=true then z0l [45,45,62] (l.drop (k + 2)) else if (Mg.pre [60,33] (l.drop k) || Mg.pre [60,63] (l.drop k) || Mg.pre [60,47] (l.drop k))=true then z0l [62] (l.drop k) else .text:=by
 unfold hereAt;rw[List.tail_drop,List.drop_drop]
end Mk
namespace Go.Proofs.YtagleefekmdldaaGreatDoor
open Go.Proofs.Tryz Go.RowKit
def q3q (H:Mk.Here) (e:Ending) (B R:Nat) (s:ByteArray) (k:Nat) (tx:List UInt8) (ts:List Mk.Tok) (w':World):Prop :=
 match H with
 | .text=>e=.returned (.tuple #[])∧RdS w' B R s (k + 1) (tx++[60]) ts
 | .stop=>e=Gave∧∃ j,RdS w' B R s j tx ts
 | .gone r=>e=.returned (.tuple #[])∧∃ j,j≤s.size∧k < j∧r=s.data.toList.drop j∧RdS w' B R s j tx ts
 | .tag t r=>e=.returned (.tuple #[])∧∃ j,j≤s.size∧k < j∧r=s.data.toList.drop j∧RdS w' B R s j [] (Mk.flush tx ts++[t])
theorem q90.here {H:Mk.Here} {e:Ending} {B R:Nat} {s:ByteArray} {k:Nat} {tx:List UInt8} {ts:List Mk.Tok} {w':World} (h:q90 H e B R s k tx ts w'):q3q H e B R s k tx ts w':=by
 cases H with
 | text=>exact h.elim
 | stop=>exact h
 | gone r=>exact h
 | tag t r=>exact h
def Y8 (e:Ending) (B R:Nat) (s:ByteArray) (k:Nat) (tx:List UInt8) (ts:List Mk.Tok) (w':World):Prop :=
 if Mg.pre [60] (s.data.toList.drop k)=true then q3q (Mk.hereAt (s.data.toList.drop k)) e B R s k tx ts w'
 else e=.returned (.tuple #[])∧RdS w' B R s (k + ((s.data.toList.drop k).takeWhile (fun c=>c != 60)).length) (tx++(s.data.toList.drop k).takeWhile (fun c=>c != 60)) ts
section
variable {w : World} {B R : Nat} {s : ByteArray} {k : Nat} {tx : List UInt8} {ts : List Mk.Tok} {ov : Value} {xs : List Value}
theorem Q8 (p:List UInt8) (h:RdO w B R s k tx ts ov xs) (hk:k≤s.size) (hs:s.size≤1048576) {b:Bool} (hb:Mg.pre p (s.data.toList.drop k)=b) :
  Calls prog 113 #[.pointer (some ⟨R,0,none⟩),.string (st p)] w fun e w'=>e=.returned (.bool b)∧Hid (RdO w' B R s k tx ts ov xs)∧Hid (Fr B w w'):=by
 have:=j6b (st p) h.rd hk hs;rw[z0b,hb] at this;refine this.mono ?_;rintro e w' ⟨he,n,rfl⟩;exact⟨he,h.below (below_drewN (Below.refl _ w) n),(Fr.refl B w).drewN n⟩
theorem X4 (m:Nat) (h:RdO w B R s k tx ts ov xs) (hk:k≤s.size) (hs:s.size≤1048576) (hm:m≤2) {b:Bool} (hb:Mk.z1y (s.data.toList.drop (k + m))=b) :
  Calls prog 116 #[.pointer (some ⟨R,0,none⟩),.int .i64 m] w fun e w'=>e=.returned (.bool b)∧Hid (RdO w' B R s k tx ts ov xs)∧Hid (Fr B w w'):=by
 have:=q8e m h.rd hk hs hm;rw[hb] at this;refine this.mono ?_;rintro e w' ⟨he,n,rfl⟩;exact⟨he,h.below (below_drewN (Below.refl _ w) n),(Fr.refl B w).drewN n⟩
theorem q8h (p:List UInt8) (m:Nat) (hg:Gl w) (h:RdO w B R s k tx ts ov xs) (hk:k≤s.size) (hs:s.size≤1048576) (hm:m≤2) (hp:p ≠ []) (hpl:p.length≤3) :
  Calls prog 118 #[.pointer (some ⟨R,0,none⟩),.string (st p),.int .i64 m] w fun e w'=>q3q (Mk.z0l p (s.data.toList.drop (k + m))) e B R s k tx ts w'∧(e=Gave∨e=.returned (.tuple #[]))∧Hid (Fr B w w'):=by
 unfold Mk.z0l
 cases hb:Mk.behind p (s.data.toList.drop (k + m)) with
 | none =>
  refine(q3e p m hg h.rd hk hs hm hp hpl hb).mono ?_;rintro e w' ⟨he,n,rfl⟩;exact⟨⟨he,k,_,_,h.below (below_drewN (Below.refl _ w) n)⟩,.inl he,(Fr.refl B w).drewN n⟩
 | some r =>
  refine(q3f p m hg h.rd hk hs hm hp hpl hb).mono ?_;rintro e w' ⟨he,j,h1,h2,h3,h4,h5⟩;exact⟨⟨he,j,h1,h2,h3,_,_,h.next h5.ap h4⟩,.inr he,Fr.of_ap h h5.ap⟩
theorem z0k {H:Mk.Here} {e:Ending} {w':World} (h:q3q H e B R s k tx ts w'):e=Gave∨e=.returned (.tuple #[]):=by
 cases H with
 | text=>exact .inr h.1
 | stop=>exact .inl h.1
 | gone r=>exact .inr h.1
 | tag t r=>exact .inr h.1
theorem rd_step (hg:Gl w) (h:RdS w B R s k tx ts) (hk:k < s.size) (hs:s.size≤1048576) (htx:tx.length≤1048576) (hts:ts.length≤1048576) :
  Calls prog 87 #[.pointer (some ⟨R,0,none⟩)] w fun e w'=>Y8 e B R s k tx ts w'∧Fr B w w':=by
 obtain⟨ov,xs,h⟩:=h;have H0:=Ld h;have L0:=Ld (Fr.refl B w);have hB1:1 < B:=h.hB;have hk':k≤s.size:=by omega
 have HE:=Ld (Mk.j4w s.data.toList k);clear h

 obtain⟨bB0,eB0⟩:∃ b,Mg.pre [60] (s.data.toList.drop k)=b:=⟨_,rfl⟩
 cases bB0 with
 | false =>
  have hB0:=Ld eB0;clear eB0;go_enter func87,ntmps87;go_wp2_with fail;refine(Q8 [60] H0.out hk' hs hB0.out).mono ?_;rintro e w1 ⟨rfl,H1,l1⟩;have L1:=Ld (L0.out.trans l1.out);clear l1 H0 L0;have c2:=H1.out.rd.c2;have HP:=Ld (z3v 115 #[] (fun c=>c != 60) eg_step1 (w:=w1.drew) (H1.out.below ((Below.refl _ w1).drew)).rd hk' hs (fun w' _=>j0d w'));have HEQ:Hid (Mg.pre [60] (s.data.toList.drop k)=false):=hB0;have hpl:=z5n s k hk' (fun c=>c != 60);generalize hpe:(s.data.toList.drop k).takeWhile (fun c=>c != 60)=p at HP hpl;have HPE:=Ld hpe;clear hpe;have q1:¬ 9223372036854775807 < (st tx).size + (st p).size:=by rw[y9,y9];omega
  go_upto_region 3 with fail
  go_region_with (go_at_call 114;refine HP.out.mono ?_;rintro e w7 ⟨rfl,RD7,MV7⟩;have d2:=RD7.c2;have g2:=RD7.fz 2)
  all_goals
   rw[show st tx++st p=st (tx++p) from z19 (st tx) (st p)];have HA:=Ld (((H1.out.below ((Below.refl _ w1).drew)).next MV7.ap RD7).setText (tx++p));have LA:=Ld ((L1.out.drew.trans (Fr.of_ap (H1.out.below ((Below.refl _ w1).drew)) MV7.ap)).trans (Fr.own ((H1.out.below ((Below.refl _ w1).drew)).next MV7.ap RD7) 2 (.string (st (tx++p)))));clear HP RD7 MV7 d2 g2;go_wp2_with fail;go_end0;exact⟨by rw[Y8,if_neg (by rw[HEQ.out];decide),HPE.out];exact⟨rfl,_,_,HA.out⟩,LA.out⟩
 | true =>
  have hB0:=Ld eB0;clear eB0;obtain⟨bL1,eL1⟩:∃ b,Mk.z1y (s.data.toList.drop (k + 1))=b:=⟨_,rfl⟩
  cases bL1 with
  | false =>
   have hL1:=Ld eL1;clear eL1;obtain⟨bB2,eB2⟩:∃ b,Mg.pre [60,47] (s.data.toList.drop k)=b:=⟨_,rfl⟩
   cases bB2 with
   | false =>
    have hB2:=Ld eB2;clear eB2;obtain⟨bB4,eB4⟩:∃ b,Mg.pre [60,33,45,45] (s.data.toList.drop k)=b:=⟨_,rfl⟩
    cases bB4 with
    | false =>
     have hB4:=Ld eB4;clear eB4;obtain⟨bB5,eB5⟩:∃ b,Mg.pre [60,33] (s.data.toList.drop k)=b:=⟨_,rfl⟩
     cases bB5 with
     | false =>
      have hB5:=Ld eB5;clear eB5;obtain⟨bB6,eB6⟩:∃ b,Mg.pre [60,63] (s.data.toList.drop k)=b:=⟨_,rfl⟩
      cases bB6 with
      | false =>
       have hB6:=Ld eB6;clear eB6;have HX:Hid (Mk.hereAt (s.data.toList.drop k)=Mk.Here.text):=by show _=_;rw[HE.out];simp[hB0.out,hL1.out,hB2.out,hB4.out,hB5.out,hB6.out]
       go_enter func87,ntmps87;go_wp2_with fail;refine(Q8 [60] H0.out hk' hs hB0.out).mono ?_;rintro e w1 ⟨rfl,H1,l1⟩;have L1:=Ld (L0.out.trans l1.out);clear l1 H0 L0;go_wp2_with fail;refine(X4 1 H1.out hk' hs (by omega) hL1.out).mono ?_;rintro e w2 ⟨rfl,H2,l2⟩;have L2:=Ld (L1.out.trans l2.out);clear l2 H1 L1;go_wp2_with fail;refine(Q8 [60,47] H2.out hk' hs hB2.out).mono ?_;rintro e w3 ⟨rfl,H3,l3⟩;have L3:=Ld (L2.out.trans l3.out);clear l3 H2 L2;go_wp2_with fail;refine(Q8 [60,33,45,45] H3.out hk' hs hB4.out).mono ?_;rintro e w4 ⟨rfl,H4,l4⟩;have L4:=Ld (L3.out.trans l4.out);clear l4 H3 L3;go_wp2_with fail;refine(Q8 [60,33] H4.out hk' hs hB5.out).mono ?_;rintro e w5 ⟨rfl,H5,l5⟩;have L5:=Ld (L4.out.trans l5.out);clear l5 H4 L4;go_wp2_with fail;refine(Q8 [60,63] H5.out hk' hs hB6.out).mono ?_;rintro e w6 ⟨rfl,H6,l6⟩;have L6:=Ld (L5.out.trans l6.out);clear l6 H5 L5;go_wp2_with fail;refine(Q8 [60,47] H6.out hk' hs hB2.out).mono ?_;rintro e w7 ⟨rfl,H7,l7⟩;have L7:=Ld (L6.out.trans l7.out);clear l7 H6 L6;have c1:=H7.out.rd.c1;have c2:=H7.out.rd.c2;have f1:=H7.out.rd.fz 1;have f2:=H7.out.rd.fz 2;have q1:¬ 9223372036854775807 < (st tx).size + (⟨#[60]⟩:ByteArray).size:=by rw[y9,show (⟨#[60]⟩:ByteArray).size=1 from rfl];omega
       go_upto_region 1 with fail;rw[show st tx++(⟨#[60]⟩:ByteArray)=st (tx++[60]) from z19 (st tx) (st [60])];have HA:=Ld (H7.out.setText (tx++[60]));have LA:=Ld (L7.out.trans (Fr.own H7.out 2 (.string (st (tx++[60])))));generalize w7.setCell ⟨R,2,none⟩ (.string (st (tx++[60])))=wa at HA LA ⊢;clear c1 c2 f1 f2;have c1:=HA.out.rd.c1;have f1:=HA.out.rd.fz 1;go_wp2_with fail;go_end0;refine⟨?_,LA.out.trans (Fr.own HA.out 1 _)⟩;rw[Y8,if_pos hB0.out,HX.out];exact⟨rfl,_,_,by have:=HA.out.setAt (k + 1);simpa using this⟩
      | true =>
       have hB6:=Ld eB6;clear eB6;have HX:Hid (Mk.hereAt (s.data.toList.drop k)=Mk.z0l [62] (s.data.toList.drop (k + 0))):=by show _=_;rw[HE.out];simp[hB0.out,hL1.out,hB2.out,hB4.out,hB5.out,hB6.out]
       go_enter func87,ntmps87;go_wp2_with fail;refine(Q8 [60] H0.out hk' hs hB0.out).mono ?_;rintro e w1 ⟨rfl,H1,l1⟩;have L1:=Ld (L0.out.trans l1.out);clear l1 H0 L0;go_wp2_with fail;refine(X4 1 H1.out hk' hs (by omega) hL1.out).mono ?_;rintro e w2 ⟨rfl,H2,l2⟩;have L2:=Ld (L1.out.trans l2.out);clear l2 H1 L1;go_wp2_with fail;refine(Q8 [60,47] H2.out hk' hs hB2.out).mono ?_;rintro e w3 ⟨rfl,H3,l3⟩;have L3:=Ld (L2.out.trans l3.out);clear l3 H2 L2;go_wp2_with fail;refine(Q8 [60,33,45,45] H3.out hk' hs hB4.out).mono ?_;rintro e w4 ⟨rfl,H4,l4⟩;have L4:=Ld (L3.out.trans l4.out);clear l4 H3 L3;go_wp2_with fail;refine(Q8 [60,33] H4.out hk' hs hB5.out).mono ?_;rintro e w5 ⟨rfl,H5,l5⟩;have L5:=Ld (L4.out.trans l5.out);clear l5 H4 L4;go_wp2_with fail;refine(Q8 [60,63] H5.out hk' hs hB6.out).mono ?_;rintro e w6 ⟨rfl,H6,l6⟩;have L6:=Ld (L5.out.trans l6.out);clear l6 H5 L5;have hg6:=hg.below L6.out.below hB1;have HC:=Ld (q8h [62] 0 hg6 H6.out hk' hs (by omega) (by decide) (by decide));clear hg6;go_wp2_with fail;refine HC.out.mono ?_;rintro e wz ⟨hr,_,hbz⟩;have hbz:=hbz.out;have RES:Hid (Y8 e B R s k tx ts wz):=by show Y8 _ _ _ _ _ _ _ _;rw[Y8,if_pos hB0.out,HX.out];exact hr
       have LZ:=Ld (L6.out.trans hbz)
       rcases z0k hr with rfl | rfl
       all_goals clear hr hbz HC
       ·go_wp2_with fail
        exact⟨rfl,RES.out,LZ.out⟩
       ·go_wp2_with fail
        go_end0;exact⟨RES.out,LZ.out⟩
     | true =>
      have hB5:=Ld eB5;clear eB5;have HX:Hid (Mk.hereAt (s.data.toList.drop k)=Mk.z0l [62] (s.data.toList.drop (k + 0))):=by show _=_;rw[HE.out];simp[hB0.out,hL1.out,hB2.out,hB4.out,hB5.out]
      go_enter func87,ntmps87;go_wp2_with fail;refine(Q8 [60] H0.out hk' hs hB0.out).mono ?_;rintro e w1 ⟨rfl,H1,l1⟩;have L1:=Ld (L0.out.trans l1.out);clear l1 H0 L0;go_wp2_with fail;refine(X4 1 H1.out hk' hs (by omega) hL1.out).mono ?_;rintro e w2 ⟨rfl,H2,l2⟩;have L2:=Ld (L1.out.trans l2.out);clear l2 H1 L1;go_wp2_with fail;refine(Q8 [60,47] H2.out hk' hs hB2.out).mono ?_;rintro e w3 ⟨rfl,H3,l3⟩;have L3:=Ld (L2.out.trans l3.out);clear l3 H2 L2;go_wp2_with fail;refine(Q8 [60,33,45,45] H3.out hk' hs hB4.out).mono ?_;rintro e w4 ⟨rfl,H4,l4⟩;have L4:=Ld (L3.out.trans l4.out);clear l4 H3 L3;go_wp2_with fail;refine(Q8 [60,33] H4.out hk' hs hB5.out).mono ?_;rintro e w5 ⟨rfl,H5,l5⟩;have L5:=Ld (L4.out.trans l5.out);clear l5 H4 L4;have hg5:=hg.below L5.out.below hB1;have HC:=Ld (q8h [62] 0 hg5 H5.out hk' hs (by omega) (by decide) (by decide));clear hg5;go_wp2_with fail;refine HC.out.mono ?_;rintro e wz ⟨hr,_,hbz⟩;have hbz:=hbz.out;have RES:Hid (Y8 e B R s k tx ts wz):=by show Y8 _ _ _ _ _ _ _ _;rw[Y8,if_pos hB0.out,HX.out];exact hr
      have LZ:=Ld (L5.out.trans hbz)
      rcases z0k hr with rfl | rfl
      all_goals clear hr hbz HC
      ·go_wp2_with fail
       exact⟨rfl,RES.out,LZ.out⟩
      ·go_wp2_with fail
       go_end0;exact⟨RES.out,LZ.out⟩
    | true =>
     have hB4:=Ld eB4;clear eB4;have HX:Hid (Mk.hereAt (s.data.toList.drop k)=Mk.z0l [45,45,62] (s.data.toList.drop (k + 2))):=by show _=_;rw[HE.out];simp[hB0.out,hL1.out,hB2.out,hB4.out]
     go_enter func87,ntmps87;go_wp2_with fail;refine(Q8 [60] H0.out hk' hs hB0.out).mono ?_;rintro e w1 ⟨rfl,H1,l1⟩;have L1:=Ld (L0.out.trans l1.out);clear l1 H0 L0;go_wp2_with fail;refine(X4 1 H1.out hk' hs (by omega) hL1.out).mono ?_;rintro e w2 ⟨rfl,H2,l2⟩;have L2:=Ld (L1.out.trans l2.out);clear l2 H1 L1;go_wp2_with fail;refine(Q8 [60,47] H2.out hk' hs hB2.out).mono ?_;rintro e w3 ⟨rfl,H3,l3⟩;have L3:=Ld (L2.out.trans l3.out);clear l3 H2 L2;go_wp2_with fail;refine(Q8 [60,33,45,45] H3.out hk' hs hB4.out).mono ?_;rintro e w4 ⟨rfl,H4,l4⟩;have L4:=Ld (L3.out.trans l4.out);clear l4 H3 L3;have hg4:=hg.below L4.out.below hB1;have HC:=Ld (q8h [45,45,62] 2 hg4 H4.out hk' hs (by omega) (by decide) (by decide));clear hg4;go_wp2_with fail;refine HC.out.mono ?_;rintro e wz ⟨hr,_,hbz⟩;have hbz:=hbz.out;have RES:Hid (Y8 e B R s k tx ts wz):=by show Y8 _ _ _ _ _ _ _ _;rw[Y8,if_pos hB0.out,HX.out];exact hr
     have LZ:=Ld (L4.out.trans hbz)
     rcases z0k hr with rfl | rfl
     all_goals clear hr hbz HC
     ·go_wp2_with fail
      exact⟨rfl,RES.out,LZ.out⟩
     ·go_wp2_with fail
      go_end0;exact⟨RES.out,LZ.out⟩
   | true =>
    have hB2:=Ld eB2;clear eB2;obtain⟨bL2,eL2⟩:∃ b,Mk.z1y (s.data.toList.drop (k + 2))=b:=⟨_,rfl⟩
    cases bL2 with
    | false =>
     have hL2:=Ld eL2;clear eL2;obtain⟨bB4,eB4⟩:∃ b,Mg.pre [60,33,45,45] (s.data.toList.drop k)=b:=⟨_,rfl⟩
     cases bB4 with
     | false =>
      have hB4:=Ld eB4;clear eB4;obtain⟨bB5,eB5⟩:∃ b,Mg.pre [60,33] (s.data.toList.drop k)=b:=⟨_,rfl⟩
      cases bB5 with
      | false =>
       have hB5:=Ld eB5;clear eB5;obtain⟨bB6,eB6⟩:∃ b,Mg.pre [60,63] (s.data.toList.drop k)=b:=⟨_,rfl⟩
       cases bB6 with
       | false =>
        have hB6:=Ld eB6;clear eB6;have HX:Hid (Mk.hereAt (s.data.toList.drop k)=Mk.z0l [62] (s.data.toList.drop (k + 0))):=by show _=_;rw[HE.out];simp[hB0.out,hL1.out,hB2.out,hL2.out,hB4.out,hB5.out,hB6.out]
        go_enter func87,ntmps87;go_wp2_with fail;refine(Q8 [60] H0.out hk' hs hB0.out).mono ?_;rintro e w1 ⟨rfl,H1,l1⟩;have L1:=Ld (L0.out.trans l1.out);clear l1 H0 L0;go_wp2_with fail;refine(X4 1 H1.out hk' hs (by omega) hL1.out).mono ?_;rintro e w2 ⟨rfl,H2,l2⟩;have L2:=Ld (L1.out.trans l2.out);clear l2 H1 L1;go_wp2_with fail;refine(Q8 [60,47] H2.out hk' hs hB2.out).mono ?_;rintro e w3 ⟨rfl,H3,l3⟩;have L3:=Ld (L2.out.trans l3.out);clear l3 H2 L2;go_wp2_with fail;refine(X4 2 H3.out hk' hs (by omega) hL2.out).mono ?_;rintro e w4 ⟨rfl,H4,l4⟩;have L4:=Ld (L3.out.trans l4.out);clear l4 H3 L3;go_wp2_with fail;refine(Q8 [60,33,45,45] H4.out hk' hs hB4.out).mono ?_;rintro e w5 ⟨rfl,H5,l5⟩;have L5:=Ld (L4.out.trans l5.out);clear l5 H4 L4;go_wp2_with fail;refine(Q8 [60,33] H5.out hk' hs hB5.out).mono ?_;rintro e w6 ⟨rfl,H6,l6⟩;have L6:=Ld (L5.out.trans l6.out);clear l6 H5 L5;go_wp2_with fail;refine(Q8 [60,63] H6.out hk' hs hB6.out).mono ?_;rintro e w7 ⟨rfl,H7,l7⟩;have L7:=Ld (L6.out.trans l7.out);clear l7 H6 L6;go_wp2_with fail;refine(Q8 [60,47] H7.out hk' hs hB2.out).mono ?_;rintro e w8 ⟨rfl,H8,l8⟩;have L8:=Ld (L7.out.trans l8.out);clear l8 H7 L7;have hg8:=hg.below L8.out.below hB1;have HC:=Ld (q8h [62] 0 hg8 H8.out hk' hs (by omega) (by decide) (by decide));clear hg8;go_wp2_with fail;refine HC.out.mono ?_;rintro e wz ⟨hr,_,hbz⟩;have hbz:=hbz.out;have RES:Hid (Y8 e B R s k tx ts wz):=by show Y8 _ _ _ _ _ _ _ _;rw[Y8,if_pos hB0.out,HX.out];exact hr
        have LZ:=Ld (L8.out.trans hbz)
        rcases z0k hr with rfl | rfl
        all_goals clear hr hbz HC
        ·go_wp2_with fail
         exact⟨rfl,RES.out,LZ.out⟩
        ·go_wp2_with fail
         go_end0;exact⟨RES.out,LZ.out⟩
       | true =>
        have hB6:=Ld eB6;clear eB6;have HX:Hid (Mk.hereAt (s.data.toList.drop k)=Mk.z0l [62] (s.data.toList.drop (k + 0))):=by show _=_;rw[HE.out];simp[hB0.out,hL1.out,hB2.out,hL2.out,hB4.out,hB5.out,hB6.out]
        go_enter func87,ntmps87;go_wp2_with fail;refine(Q8 [60] H0.out hk' hs hB0.out).mono ?_;rintro e w1 ⟨rfl,H1,l1⟩;have L1:=Ld (L0.out.trans l1.out);clear l1 H0 L0;go_wp2_with fail;refine(X4 1 H1.out hk' hs (by omega) hL1.out).mono ?_;rintro e w2 ⟨rfl,H2,l2⟩;have L2:=Ld (L1.out.trans l2.out);clear l2 H1 L1;go_wp2_with fail;refine(Q8 [60,47] H2.out hk' hs hB2.out).mono ?_;rintro e w3 ⟨rfl,H3,l3⟩;have L3:=Ld (L2.out.trans l3.out);clear l3 H2 L2;go_wp2_with fail;refine(X4 2 H3.out hk' hs (by omega) hL2.out).mono ?_;rintro e w4 ⟨rfl,H4,l4⟩;have L4:=Ld (L3.out.trans l4.out);clear l4 H3 L3;go_wp2_with fail;refine(Q8 [60,33,45,45] H4.out hk' hs hB4.out).mono ?_;rintro e w5 ⟨rfl,H5,l5⟩;have L5:=Ld (L4.out.trans l5.out);clear l5 H4 L4;go_wp2_with fail;refine(Q8 [60,33] H5.out hk' hs hB5.out).mono ?_;rintro e w6 ⟨rfl,H6,l6⟩;have L6:=Ld (L5.out.trans l6.out);clear l6 H5 L5;go_wp2_with fail;refine(Q8 [60,63] H6.out hk' hs hB6.out).mono ?_;rintro e w7 ⟨rfl,H7,l7⟩;have L7:=Ld (L6.out.trans l7.out);clear l7 H6 L6;have hg7:=hg.below L7.out.below hB1;have HC:=Ld (q8h [62] 0 hg7 H7.out hk' hs (by omega) (by decide) (by decide));clear hg7;go_wp2_with fail;refine HC.out.mono ?_;rintro e wz ⟨hr,_,hbz⟩;have hbz:=hbz.out;have RES:Hid (Y8 e B R s k tx ts wz):=by show Y8 _ _ _ _ _ _ _ _;rw[Y8,if_pos hB0.out,HX.out];exact hr
        have LZ:=Ld (L7.out.trans hbz)
        rcases z0k hr with rfl | rfl
        all_goals clear hr hbz HC
        ·go_wp2_with fail
         exact⟨rfl,RES.out,LZ.out⟩
        ·go_wp2_with fail
         go_end0;exact⟨RES.out,LZ.out⟩
      | true =>
       have hB5:=Ld eB5;clear eB5;have HX:Hid (Mk.hereAt (s.data.toList.drop k)=Mk.z0l [62] (s.data.toList.drop (k + 0))):=by show _=_;rw[HE.out];simp[hB0.out,hL1.out,hB2.out,hL2.out,hB4.out,hB5.out]
       go_enter func87,ntmps87;go_wp2_with fail;refine(Q8 [60] H0.out hk' hs hB0.out).mono ?_;rintro e w1 ⟨rfl,H1,l1⟩;have L1:=Ld (L0.out.trans l1.out);clear l1 H0 L0;go_wp2_with fail;refine(X4 1 H1.out hk' hs (by omega) hL1.out).mono ?_;rintro e w2 ⟨rfl,H2,l2⟩;have L2:=Ld (L1.out.trans l2.out);clear l2 H1 L1;go_wp2_with fail;refine(Q8 [60,47] H2.out hk' hs hB2.out).mono ?_;rintro e w3 ⟨rfl,H3,l3⟩;have L3:=Ld (L2.out.trans l3.out);clear l3 H2 L2;go_wp2_with fail;refine(X4 2 H3.out hk' hs (by omega) hL2.out).mono ?_;rintro e w4 ⟨rfl,H4,l4⟩;have L4:=Ld (L3.out.trans l4.out);clear l4 H3 L3;go_wp2_with fail;refine(Q8 [60,33,45,45] H4.out hk' hs hB4.out).mono ?_;rintro e w5 ⟨rfl,H5,l5⟩;have L5:=Ld (L4.out.trans l5.out);clear l5 H4 L4;go_wp2_with fail;refine(Q8 [60,33] H5.out hk' hs hB5.out).mono ?_;rintro e w6 ⟨rfl,H6,l6⟩;have L6:=Ld (L5.out.trans l6.out);clear l6 H5 L5;have hg6:=hg.below L6.out.below hB1;have HC:=Ld (q8h [62] 0 hg6 H6.out hk' hs (by omega) (by decide) (by decide));clear hg6;go_wp2_with fail;refine HC.out.mono ?_;rintro e wz ⟨hr,_,hbz⟩;have hbz:=hbz.out;have RES:Hid (Y8 e B R s k tx ts wz):=by show Y8 _ _ _ _ _ _ _ _;rw[Y8,if_pos hB0.out,HX.out];exact hr
       have LZ:=Ld (L6.out.trans hbz)
       rcases z0k hr with rfl | rfl
       all_goals clear hr hbz HC
       ·go_wp2_with fail
        exact⟨rfl,RES.out,LZ.out⟩
       ·go_wp2_with fail
        go_end0;exact⟨RES.out,LZ.out⟩
     | true =>
      have hB4:=Ld eB4;clear eB4;have HX:Hid (Mk.hereAt (s.data.toList.drop k)=Mk.z0l [45,45,62] (s.data.toList.drop (k + 2))):=by show _=_;rw[HE.out];simp[hB0.out,hL1.out,hB2.out,hL2.out,hB4.out]
      go_enter func87,ntmps87;go_wp2_with fail;refine(Q8 [60] H0.out hk' hs hB0.out).mono ?_;rintro e w1 ⟨rfl,H1,l1⟩;have L1:=Ld (L0.out.trans l1.out);clear l1 H0 L0;go_wp2_with fail;refine(X4 1 H1.out hk' hs (by omega) hL1.out).mono ?_;rintro e w2 ⟨rfl,H2,l2⟩;have L2:=Ld (L1.out.trans l2.out);clear l2 H1 L1;go_wp2_with fail;refine(Q8 [60,47] H2.out hk' hs hB2.out).mono ?_;rintro e w3 ⟨rfl,H3,l3⟩;have L3:=Ld (L2.out.trans l3.out);clear l3 H2 L2;go_wp2_with fail;refine(X4 2 H3.out hk' hs (by omega) hL2.out).mono ?_;rintro e w4 ⟨rfl,H4,l4⟩;have L4:=Ld (L3.out.trans l4.out);clear l4 H3 L3;go_wp2_with fail;refine(Q8 [60,33,45,45] H4.out hk' hs hB4.out).mono ?_;rintro e w5 ⟨rfl,H5,l5⟩;have L5:=Ld (L4.out.trans l5.out);clear l5 H4 L4;have hg5:=hg.below L5.out.below hB1;have HC:=Ld (q8h [45,45,62] 2 hg5 H5.out hk' hs (by omega) (by decide) (by decide));clear hg5;go_wp2_with fail;refine HC.out.mono ?_;rintro e wz ⟨hr,_,hbz⟩;have hbz:=hbz.out;have RES:Hid (Y8 e B R s k tx ts wz):=by show Y8 _ _ _ _ _ _ _ _;rw[Y8,if_pos hB0.out,HX.out];exact hr
      have LZ:=Ld (L5.out.trans hbz)
      rcases z0k hr with rfl | rfl
      all_goals clear hr hbz HC
      ·go_wp2_with fail
       exact⟨rfl,RES.out,LZ.out⟩
      ·go_wp2_with fail
       go_end0;exact⟨RES.out,LZ.out⟩
    | true =>
     have hL2:=Ld eL2;clear eL2;have HX:Hid (Mk.hereAt (s.data.toList.drop k)=Mk.z0y (s.data.toList.drop (k + 2))):=by show _=_;rw[HE.out];simp[hB0.out,hL1.out,hB2.out,hL2.out]
     go_enter func87,ntmps87;go_wp2_with fail;refine(Q8 [60] H0.out hk' hs hB0.out).mono ?_;rintro e w1 ⟨rfl,H1,l1⟩;have L1:=Ld (L0.out.trans l1.out);clear l1 H0 L0;go_wp2_with fail;refine(X4 1 H1.out hk' hs (by omega) hL1.out).mono ?_;rintro e w2 ⟨rfl,H2,l2⟩;have L2:=Ld (L1.out.trans l2.out);clear l2 H1 L1;go_wp2_with fail;refine(Q8 [60,47] H2.out hk' hs hB2.out).mono ?_;rintro e w3 ⟨rfl,H3,l3⟩;have L3:=Ld (L2.out.trans l3.out);clear l3 H2 L2;go_wp2_with fail;refine(X4 2 H3.out hk' hs (by omega) hL2.out).mono ?_;rintro e w4 ⟨rfl,H4,l4⟩;have L4:=Ld (L3.out.trans l4.out);clear l4 H3 L3;have hg4:=hg.below L4.out.below hB1;have hk2:k + 2≤s.size:=by
      rcases Nat.lt_or_ge (k + 2) s.size with q | q
      ·omega
      ·exfalso;have q2:=hL2.out;rw[List.drop_of_length_le (by simp;omega)] at q2;cases q2
     have HC:=Ld (q6j hg4 ⟨_,_,H4.out⟩ hk2 hs htx hts);clear hg4;go_wp2_with fail;refine HC.out.mono ?_;rintro e wz ⟨hr,hbz⟩;have hr:=hr.here;have RES:Hid (Y8 e B R s k tx ts wz):=by show Y8 _ _ _ _ _ _ _ _;rw[Y8,if_pos hB0.out,HX.out];exact hr
     have LZ:=Ld (L4.out.trans hbz)
     rcases z0k hr with rfl | rfl
     all_goals clear hr hbz HC
     ·go_wp2_with fail
      exact⟨rfl,RES.out,LZ.out⟩
     ·go_wp2_with fail
      go_end0;exact⟨RES.out,LZ.out⟩
  | true =>
   have hL1:=Ld eL1;clear eL1;have HX:Hid (Mk.hereAt (s.data.toList.drop k)=Mk.z2i (s.data.toList.drop (k + 1))):=by show _=_;rw[HE.out];simp[hB0.out,hL1.out]
   go_enter func87,ntmps87;go_wp2_with fail;refine(Q8 [60] H0.out hk' hs hB0.out).mono ?_;rintro e w1 ⟨rfl,H1,l1⟩;have L1:=Ld (L0.out.trans l1.out);clear l1 H0 L0;go_wp2_with fail;refine(X4 1 H1.out hk' hs (by omega) hL1.out).mono ?_;rintro e w2 ⟨rfl,H2,l2⟩;have L2:=Ld (L1.out.trans l2.out);clear l2 H1 L1;have hg2:=hg.below L2.out.below hB1;have HC:=Ld (q8f hg2 ⟨_,_,H2.out⟩ (by omega) hs htx hts);clear hg2;go_wp2_with fail;refine HC.out.mono ?_;rintro e wz ⟨hr,hbz⟩;have hr:=hr.here;have RES:Hid (Y8 e B R s k tx ts wz):=by show Y8 _ _ _ _ _ _ _ _;rw[Y8,if_pos hB0.out,HX.out];exact hr
   have LZ:=Ld (L2.out.trans hbz)
   rcases z0k hr with rfl | rfl
   all_goals clear hr hbz HC
   ·go_wp2_with fail
    exact⟨rfl,RES.out,LZ.out⟩
   ·go_wp2_with fail
    go_end0;exact⟨RES.out,LZ.out⟩
end
end Go.Proofs.YtagleefekmdldaaGreatDoor
