/- Contracts of the reference's SameAttrs and SameNodes: are attributes, and trees, the same. Condition: at most 33554432 nodes, attributes and letters. -/
import Derived.Test.YtjonkbdldebkiaaGreatDoorVMkClean5
import Derived.RegionTactic
import Derived.Laws.StructEq
set_option linter.unusedVariables false
set_option linter.unusedSimpArgs false
set_option maxHeartbeats 8000000
set_option maxRecDepth 100000
namespace Go.Proofs.YtjonkbdldebkiaaGreatDoor
open Go.Proofs.Tryz Go.RowKit
theorem AtsV.get {w:World} {K:Nat→Prop} {v:Value} {l:List Mk.At} (h:AtsV w K v l):∃ ao cap,v=.slice ao l.length cap∧l.length≤maxLen∧∀ k (hk:k < l.length),∃ g o,ao=some ⟨g,o,none⟩∧K g∧w.cell? ⟨g,o + k * 2,none⟩=some (.string (st l[k].n))∧w.cell? ⟨g,o + k * 2 + 1,none⟩=some (.string (st l[k].v)):=by
 obtain⟨ao,cap,h1,h2,_,h4⟩:=h;refine⟨ao,cap,h1,h4,fun k hk=>?_⟩;obtain⟨e1,e2⟩:=q0i l k hk
 rcases h2 with h2 | ⟨g,o,h3,h5,h6⟩
 ·rw[h2] at e1;simp at e1
 ·rw[Nat.mul_comm k 2]
  exact⟨g,o,h3,h5,h6 _ _ e1,by rw[Nat.add_assoc];exact h6 _ _ e2⟩
theorem FoV.get {w:World} {K:Nat→Prop} {v:Value} {f:Mk.Fo} (h:FoV w K v f):∃ ao cap,v=.slice ao f.len cap∧f.len≤maxLen∧∀ k n a t kk r,f.drop k=.node n a t kk r→∃ g o aoa capa aok capk,ao=some ⟨g,o,none⟩∧K g∧w.cell? ⟨g,o + k * 4,none⟩=some (.string (st n))∧w.cell? ⟨g,o + k * 4 + 1,none⟩=some (.slice aoa a.length capa)∧w.cell? ⟨g,o + k * 4 + 2,none⟩=some (.string (st t))∧w.cell? ⟨g,o + k * 4 + 3,none⟩=some (.slice aok kk.len capk)∧AtsV w K (.slice aoa a.length capa) a∧FoV w K (.slice aok kk.len capk) kk:=by
 obtain⟨g,o,cap,h1,h2,h3⟩:=h.at_
 rcases h1 with ⟨h1,hK⟩ | ⟨ao,h1,hn⟩
 ·refine⟨_,cap,h1,h2,fun k n a t kk r hd=>?_⟩
  obtain⟨va,vk,c0,c1,c2,c3,hva,hvk⟩:=h3 k n a t kk r hd;obtain⟨aoa,capa,hva1,_⟩:=id hva;obtain⟨aok,capk,xsk,hvk1,_⟩:=id hvk;subst hva1;subst hvk1;exact⟨g,o,aoa,capa,aok,capk,rfl,hK,c0,c1,c2,c3,hva,hvk⟩
 ·subst hn
  refine⟨ao,cap,h1,h2,fun k n a t kk r hd=>?_⟩
  cases k with
  | zero=>rw[Mk.Fo.drop_zero] at hd;cases hd
  | succ k=>cases hd
theorem take_same {α:Type _} (l m:List α) (k:Nat) (h1:k < l.length) (h2:k < m.length) (h:l.take k=m.take k):l.take (k + 1)=m.take (k + 1)↔l[k]=m[k]:=by
 rw[List.take_succ_eq_append_getElem h1,List.take_succ_eq_append_getElem h2,h];exact⟨fun e=>by simpa using (List.append_inj' e rfl).2,fun e=>by rw[e]⟩
theorem Tryz.guardAttr:prog.eqGuardType prog.depth 56=false:=by kernel_rfl
theorem q56 (a b:Mk.At) (w:World):(binOp .neq 56 (.agg #[.string (st a.n),.string (st a.v)]) (.agg #[.string (st b.n),.string (st b.v)])).run prog w=.ok (.bool (!decide (a=b))) w:=by
 have hst:∀ l,(st l).toList=l:=fun l=>Lib.toList_data _
 rw[run_neq_struct];simp[run_equalIn_struct,go_sem];simp only [hst];obtain⟨a1,a2⟩:=a;obtain⟨b1,b2⟩:=b;have e:decide ((⟨a1,a2⟩:Mk.At)=⟨b1,b2⟩)=decide (a1=b1∧a2=b2):=by
  rw[Bool.eq_iff_iff];simp
 rw[e]
 by_cases h1:a1=b1
 ·by_cases h2:a2=b2
  ·simp[h1,h2]
  ·simp[h1,h2]
 ·simp[h1]
theorem q4v (l m:List Mk.At) (v u:Value) (K K2:Nat→Prop) (w:World) (hv:AtsV w K v l) (hu:AtsV w K2 u m) (hK:∀ b,K b→b < w.heap.size) (hK2:∀ b,K2 b→b < w.heap.size) (hl:l.length≤33554432) :
  Calls prog 97 #[v,u] w fun e w'=>e=.returned (.bool (decide (l=m)))∧Below w.heap.size w w':=by
 obtain⟨ao,cap,hv1,hvm,hvc⟩:=hv.get;obtain⟨au,cau,hu1,hum,huc⟩:=hu.get;subst hv1;subst hu1;have HV:=Ld hvc;have HU:=Ld huc;have HK:=Ld hK;have HK2:=Ld hK2;clear hvc huc hv hu hvm hum hK hK2
 by_cases hlen:l.length=m.length
 ·have HLE:=Ld hlen
  have hm:m.length=l.length:=hlen.symm;rw[hm];clear hlen hm;go_enter func97,ntmps97;go_wp2_with fail
  go_loopw [5] (fun i wr=>∃ k:Nat,k≤l.length∧i=.int .i64 k∧Hid (l.take k=m.take k)∧Hid (Below w.heap.size w wr)) (fun i _=>l.length - (intOf i).toNat)
  case atStart=>exact⟨0,Nat.zero_le _,rfl,rfl,Below.refl _ _⟩
  case round =>
   obtain⟨k,hk,rfl,HT,BL⟩:=hrel
   by_cases hlt:k < l.length
   ·have hlt2:k < m.length:=by have:=HLE.out;omega
    obtain⟨g,o,rfl,hKg,c0,c1⟩:=HV.out k hlt;obtain⟨g2,o2,rfl,hKg2,d0,d1⟩:=HU.out k hlt2;rw[← BL.out.cell (p:=⟨g,_,none⟩) (HK.out g hKg)] at c0 c1;rw[← BL.out.cell (p:=⟨g2,_,none⟩) (HK2.out g2 hKg2)] at d0 d1;have hne:=fun W=>q56 l[k] m[k] W
    have hgd:=fun X Y W=>run_eqGuard_agg (P:=prog) W .neq 56 X Y #[.string (st l[k].n),.string (st l[k].v)] #[.string (st m[k].n),.string (st m[k].v)] Tryz.guardAttr
    have HS:Hid (l.take (k + 1)=m.take (k + 1)↔l[k]=m[k]):=take_same l m k hlt hlt2 HT.out;have HS2:Hid (l[k] ≠ m[k]→l ≠ m):=fun h e=>h (by subst e;rfl)
    obtain⟨x,hx⟩:∃ x,l[k]=x:=⟨_,rfl⟩;obtain⟨y,hy⟩:∃ y,m[k]=y:=⟨_,rfl⟩;rw[hx] at c0 c1;rw[hy] at d0 d1;rw[hx,hy] at hne hgd HS HS2;clear hx hy
    by_cases hxy:x=y
    ·have hdx:decide (x=y)=true:=decide_eq_true hxy
     rw[hdx] at hne;have HT2:Hid (l.take (k + 1)=m.take (k + 1)):=HS.out.2 hxy;clear hxy hdx HS HS2 HT;go_upto_region 6 with fail
     go_region
     all_goals
      go_wp2_with fail;go_roundw
      case rel=>exact⟨k + 1,by omega,by go_num,HT2.out,BL.out.drew⟩
      case measure=>simp[intOf];omega
    ·have hdx:decide (x=y)=false:=decide_eq_false hxy
     rw[hdx] at hne;have HN:Hid (decide (l=m)=false):=decide_eq_false (HS2.out hxy);clear hxy hdx HS HS2 HT;go_upto_region 6 with fail
     go_region
     all_goals
      go_wp2_with fail;go_ret;exact⟨Z8 (by rw[HN.out]),BL.out.drew⟩
   ·have HN:Hid (decide (l=m)=true):=by
     show _=_;have h:=HT.out;have h2:=HLE.out;rw[List.take_of_length_le (by omega),List.take_of_length_le (by omega)] at h;exact decide_eq_true h
    clear HT HLE;go_wp2_with fail;go_ret;exact⟨Z8 (by rw[HN.out]),BL.out⟩
 ·have HN:Hid (decide (l=m)=false):=decide_eq_false (fun e=>hlen (by rw[e]))
  have hln:¬ (l.length:Int)=m.length:=by omega
  clear hlen;go_enter func97,ntmps97;go_wp2_with fail;go_ret;exact⟨Z8 (by rw[HN.out]),Below.refl _ _⟩
def SameC (f:Mk.Fo):Prop:=∀ (v u:Value) (K K2:Nat→Prop) (w:World),FoV w K v f→FoV w K2 u f→(∀ b,K b→b < w.heap.size)→(∀ b,K2 b→b < w.heap.size)→Calls prog 54 #[v,u] w fun e w'=>e=.returned (.bool true)∧Below w.heap.size w w'
theorem z2q (N:Nat):∀ f:Mk.Fo,f.bulk < N→f.bulk≤33554432→SameC f:=by
 induction N with
 | zero=>intro f hN;omega
 | succ N ih =>
  intro f hN hb v u K K2 w hv hu hK hK2;have hgl:=Mk.Fo.z1r f;obtain⟨ao,cap,hv1,hvm,hvc⟩:=hv.get;obtain⟨au,cau,hu1,hum,huc⟩:=hu.get;subst hv1;subst hu1;have HV:=Ld hvc;have HU:=Ld huc;have HK:=Ld hK;have HK2:=Ld hK2;clear hvc huc hv hu hvm hum hK hK2;go_enter func54,ntmps54;go_wp2_with fail
  go_loopw [5] (fun i wr=>∃ k:Nat,k≤f.len∧i=.int .i64 k∧Hid (Below w.heap.size w wr)) (fun i _=>f.len - (intOf i).toNat)
  case atStart=>exact⟨0,Nat.zero_le _,rfl,Below.refl _ _⟩
  case round =>
   obtain⟨k,hk,rfl,BL⟩:=hrel
   by_cases hlt:k < f.len
   ·obtain⟨n,a,t,kk,r,hd,hd1⟩:=Mk.Fo.z6j f k hlt
    obtain⟨g,o,aoa,capa,aok,capk,rfl,hKg,c0,c1,c2,c3,hva,hvk⟩:=HV.out k n a t kk r hd;obtain⟨g2,o2,aoa2,capa2,aok2,capk2,rfl,hKg2,d0,d1,d2,d3,hva2,hvk2⟩:=HU.out k n a t kk r hd;have hgw:=HK.out g hKg;have hgw2:=HK2.out g2 hKg2;have HFR:Hid (∀ W,Below w.heap.size w W→W.cell? ⟨g,o + k * 4,none⟩=some (.string (st n))∧W.cell? ⟨g,o + k * 4 + 1,none⟩=some (.slice aoa a.length capa)∧W.cell? ⟨g,o + k * 4 + 2,none⟩=some (.string (st t))∧W.cell? ⟨g,o + k * 4 + 3,none⟩=some (.slice aok kk.len capk)∧W.cell? ⟨g2,o2 + k * 4,none⟩=some (.string (st n))∧W.cell? ⟨g2,o2 + k * 4 + 1,none⟩=some (.slice aoa2 a.length capa2)∧W.cell? ⟨g2,o2 + k * 4 + 2,none⟩=some (.string (st t))∧W.cell? ⟨g2,o2 + k * 4 + 3,none⟩=some (.slice aok2 kk.len capk2)):=fun W hW=>⟨(hW.cell (p:=⟨g,_,none⟩) hgw).trans c0,(hW.cell (p:=⟨g,_,none⟩) hgw).trans c1,(hW.cell (p:=⟨g,_,none⟩) hgw).trans c2,(hW.cell (p:=⟨g,_,none⟩) hgw).trans c3,(hW.cell (p:=⟨g2,_,none⟩) hgw2).trans d0,(hW.cell (p:=⟨g2,_,none⟩) hgw2).trans d1,(hW.cell (p:=⟨g2,_,none⟩) hgw2).trans d2,(hW.cell (p:=⟨g2,_,none⟩) hgw2).trans d3⟩
    have hdb:(f.drop k).bulk=1 + n.length + t.length + Mk.Fo.atB a + kk.bulk + r.bulk:=by rw[hd];rfl
    have hdb2:=Mk.Fo.z1z f k;have hatl:=Mk.z5f a;have HSA:Hid (∀ W,Below w.heap.size w W→Calls prog 97 #[.slice aoa a.length capa,.slice aoa2 a.length capa2] W fun e w'=>e=.returned (.bool true)∧Below W.heap.size W w'):=fun W hW=>by
     have h:=q4v a a _ _ K K2 W (hva.below HK.out hW) (hva2.below HK2.out hW) (fun b q=>Nat.lt_of_lt_of_le (HK.out b q) hW.size) (fun b q=>Nat.lt_of_lt_of_le (HK2.out b q) hW.size) (by omega)
     rwa [show decide (a=a)=true from decide_eq_true rfl] at h
    have HSN:Hid (∀ W,Below w.heap.size w W→Calls prog 54 #[.slice aok kk.len capk,.slice aok2 kk.len capk2] W fun e w'=>e=.returned (.bool true)∧Below W.heap.size W w'):=fun W hW=>ih kk (by omega) (by omega) _ _ K K2 W (hvk.below HK.out hW) (hvk2.below HK2.out hW) (fun b q=>Nat.lt_of_lt_of_le (HK.out b q) hW.size) (fun b q=>Nat.lt_of_lt_of_le (HK2.out b q) hW.size)
    obtain⟨p0,p1,p2,p3,s0,s1,s2,s3⟩:=HFR.out wr BL.out;have hki:(k:Int) < f.len:=by omega
    have hk0:(0:Int)≤k:=by omega
    clear hd hd1 hva hva2 hvk hvk2 hdb hdb2 hatl c0 c1 c2 c3 d0 d1 d2 d3 ih HV HU;go_upto_region 6 with fail
    go_region_held3 (fun w'=>w'.cell? ⟨g,o + k * 4,none⟩=some (.string (st n))∧w'.cell? ⟨g,o + k * 4 + 1,none⟩=some (.slice aoa a.length capa)∧w'.cell? ⟨g,o + k * 4 + 2,none⟩=some (.string (st t))∧w'.cell? ⟨g,o + k * 4 + 3,none⟩=some (.slice aok kk.len capk)∧w'.cell? ⟨g2,o2 + k * 4,none⟩=some (.string (st n))∧w'.cell? ⟨g2,o2 + k * 4 + 1,none⟩=some (.slice aoa2 a.length capa2)∧w'.cell? ⟨g2,o2 + k * 4 + 2,none⟩=some (.string (st t))∧w'.cell? ⟨g2,o2 + k * 4 + 3,none⟩=some (.slice aok2 kk.len capk2)) (first
     | exact HFR.out _ BL.out.drew
     | exact HFR.out _ hB2
     | exact HFR.out _ hB3) (first | (go_at_call 97;refine(HSA.out _ BL.out.drew).mono ?_;rintro e w2 ⟨rfl,hb2⟩;have hB2:Below w.heap.size w w2:=BL.out.drew.trans (hb2.mono BL.out.size)) | (go_at_call 54;refine(HSN.out _ hB2).mono ?_;rintro e w3 ⟨rfl,hb3⟩;have hB3:Below w.heap.size w w3:=hB2.trans (hb3.mono hB2.size)))
    all_goals
     have HB3:=Ld hB3;clear hB3 hB2 hb2 hb3 HFR HSA HSN p0 p1 p2 p3 s0 s1 s2 s3;go_wp2_with fail;go_roundw
     case rel=>exact⟨k + 1,by omega,by go_num,HB3.out⟩
     case measure=>simp[intOf];omega
   ·have hke:k=f.len:=by omega
    clear HV HU;go_wp2_with fail;go_ret;exact⟨rfl,BL.out⟩
end Go.Proofs.YtjonkbdldebkiaaGreatDoor
