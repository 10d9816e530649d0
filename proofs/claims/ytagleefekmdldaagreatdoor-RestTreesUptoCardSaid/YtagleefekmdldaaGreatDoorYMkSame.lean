/- Contracts of the reference's SameAttrs and SameNodes: are attributes, and trees, the same. Condition: at most 33554432 nodes, attributes and letters. -/
import Derived.Test.YtagleefekmdldaaGreatDoorYMkClean4
import Derived.RegionTactic
import Derived.Laws.StructEq
import Derived.Test.YtagleefekmdldaaGreatDoorYMkTok5
import Derived.Deep.RegionHeld3
import Derived.ChangeAlike
set_option linter.unusedVariables false
set_option linter.unusedSimpArgs false
set_option maxHeartbeats 8000000
set_option maxRecDepth 100000
namespace Go.Proofs.YtagleefekmdldaaGreatDoor
open Go.Proofs.Tryz Go.RowKit
theorem AtsV.get {w:World} {K:Nat→Prop} {v:Value} {l:List Mk.At} (h:AtsV w K v l):∃ ao cap,v=.slice ao l.length cap∧l.length≤maxLen∧∀ k (hk:k < l.length),∃ g o,ao=some ⟨g,o,none⟩∧K g∧w.cell? ⟨g,o + k * 2,none⟩=some (.string (st l[k].n))∧w.cell? ⟨g,o + k * 2 + 1,none⟩=some (.string (st l[k].v)):=by
 obtain⟨ao,cap,h1,h2,_,h4⟩:=h;refine⟨ao,cap,h1,h4,fun k hk=>?_⟩;obtain⟨e1,e2⟩:=z7a l k hk
 rcases h2 with h2 | ⟨g,o,h3,h5,h6,_⟩
 ·rw[h2] at e1;simp at e1
 ·rw[Nat.mul_comm k 2]
  exact⟨g,o,h3,h5,h6 _ _ e1,by rw[Nat.add_assoc];exact h6 _ _ e2⟩
theorem FoV.get {w:World} {K:Nat→Prop} {v:Value} {f:Mk.Fo} (h:FoV w K v f):∃ ao cap,v=.slice ao f.len cap∧f.len≤maxLen∧∀ k n a t kk r,f.drop k=.node n a t kk r→∃ g o aoa capa aok capk,ao=some ⟨g,o,none⟩∧K g∧w.cell? ⟨g,o + k * 4,none⟩=some (.string (st n))∧w.cell? ⟨g,o + k * 4 + 1,none⟩=some (.slice aoa a.length capa)∧w.cell? ⟨g,o + k * 4 + 2,none⟩=some (.string (st t))∧w.cell? ⟨g,o + k * 4 + 3,none⟩=some (.slice aok kk.len capk)∧AtsV w K (.slice aoa a.length capa) a∧FoV w K (.slice aok kk.len capk) kk:=by
 obtain⟨g,o,cap,h1,h2,h3⟩:=h.at_
 rcases h1 with ⟨h1,hK⟩ | ⟨ao,h1,hn⟩
 ·refine⟨_,cap,h1,h2,fun k n a t kk r hd=>?_⟩
  obtain⟨va,vk,c0,c1,c2,c3,hva,hvk⟩:=h3 k n a t kk r hd;obtain⟨aoa,capa,hva1,_⟩:=id hva;obtain⟨aok,capk,xsk,hvk1,_⟩:=id hvk;subst hva1;subst hvk1;exact⟨g,o,aoa,capa,aok,capk,rfl,hK,c0,c1,c2,c3,hva,hvk⟩
 ·subst hn
  refine⟨ao,cap,h1,h2,fun k n a t kk r hd=>?_⟩
  cases k with
  | zero=>rw[Mk.Fo.drop_zero] at hd;cases hd
  | succ k=>cases hd
theorem take_same {α:Type _} (l m:List α) (k:Nat) (h1:k < l.length) (h2:k < m.length) (h:l.take k=m.take k):l.take (k + 1)=m.take (k + 1)↔l[k]=m[k]:=by
 rw[List.take_succ_eq_append_getElem h1,List.take_succ_eq_append_getElem h2,h];exact⟨fun e=>by simpa using (List.append_inj' e rfl).2,fun e=>by rw[e]⟩
theorem Tryz.guardAttr:prog.eqGuardType prog.depth 73=false:=by kernel_rfl
theorem q6p (a b:Mk.At) (w:World):(binOp .neq 73 (.agg #[.string (st a.n),.string (st a.v)]) (.agg #[.string (st b.n),.string (st b.v)])).run prog w=.ok (.bool (!decide (a=b))) w:=by
 have hst:∀ l,(st l).toList=l:=fun l=>Lib.toList_data _
 rw[run_neq_struct];simp[run_equalIn_struct,go_sem];simp only [hst];obtain⟨a1,a2⟩:=a;obtain⟨b1,b2⟩:=b;have e:decide ((⟨a1,a2⟩:Mk.At)=⟨b1,b2⟩)=decide (a1=b1∧a2=b2):=by
  rw[Bool.eq_iff_iff];simp
 rw[e]
 by_cases h1:a1=b1
 ·by_cases h2:a2=b2
  ·simp[h1,h2]
  ·simp[h1,h2]
 ·simp[h1]
theorem z9f (l m:List Mk.At) (v u:Value) (K K2:Nat→Prop) (w:World) (hv:AtsV w K v l) (hu:AtsV w K2 u m) (hK:∀ b,K b→b < w.heap.size) (hK2:∀ b,K2 b→b < w.heap.size) (hl:l.length≤33554432) :
  Calls prog 40 #[v,u] w fun e w'=>e=.returned (.bool (decide (l=m)))∧Below w.heap.size w w':=by
 obtain⟨ao,cap,hv1,hvm,hvc⟩:=hv.get;obtain⟨au,cau,hu1,hum,huc⟩:=hu.get;subst hv1;subst hu1;have HV:=Ld hvc;have HU:=Ld huc;have HK:=Ld hK;have HK2:=Ld hK2;clear hvc huc hv hu hvm hum hK hK2
 by_cases hlen:l.length=m.length
 ·have HLE:=Ld hlen
  have hm:m.length=l.length:=hlen.symm;rw[hm];clear hlen hm;go_enter func40,ntmps40;go_wp2_with fail
  go_loopw [5] (fun i wr=>∃ k:Nat,k≤l.length∧i=.int .i64 k∧Hid (l.take k=m.take k)∧Hid (Below w.heap.size w wr)) (fun i _=>l.length - (intOf i).toNat)
  case atStart=>exact⟨0,Nat.zero_le _,rfl,rfl,Below.refl _ _⟩
  case round =>
   obtain⟨k,hk,rfl,HT,BL⟩:=hrel
   by_cases hlt:k < l.length
   ·have hlt2:k < m.length:=by have:=HLE.out;omega
    obtain⟨g,o,rfl,hKg,c0,c1⟩:=HV.out k hlt;obtain⟨g2,o2,rfl,hKg2,d0,d1⟩:=HU.out k hlt2;rw[← BL.out.cell (p:=⟨g,_,none⟩) (HK.out g hKg)] at c0 c1;rw[← BL.out.cell (p:=⟨g2,_,none⟩) (HK2.out g2 hKg2)] at d0 d1;have hne:=fun W=>q6p l[k] m[k] W
    have hgd:=fun X Y W=>run_eqGuard_agg (P:=prog) W .neq 73 X Y #[.string (st l[k].n),.string (st l[k].v)] #[.string (st m[k].n),.string (st m[k].v)] Tryz.guardAttr
    have HS:Hid (l.take (k + 1)=m.take (k + 1)↔l[k]=m[k]):=take_same l m k hlt hlt2 HT.out;have HS2:Hid (l[k] ≠ m[k]→l ≠ m):=fun h e=>h (by subst e;rfl)
    obtain⟨x,hx⟩:∃ x,l[k]=x:=⟨_,rfl⟩;obtain⟨y,hy⟩:∃ y,m[k]=y:=⟨_,rfl⟩;rw[hx] at c0 c1;rw[hy] at d0 d1;rw[hx,hy] at hne hgd HS HS2;clear hx hy
    by_cases hxy:x=y
    ·have hdx:decide (x=y)=true:=decide_eq_true hxy
     rw[hdx] at hne;have HT2:Hid (l.take (k + 1)=m.take (k + 1)):=HS.out.2 hxy;clear hxy hdx HS HS2 HT;go_upto_region 6 with fail
     go_region
     all_goals
      go_wp2_with fail;go_roundw
      case rel=>exact⟨k + 1,by omega,by go_num,HT2.out,BL.out.drew⟩
      case measure=>simp[intOf];omega
    ·have hdx:decide (x=y)=false:=decide_eq_false hxy
     rw[hdx] at hne;have HN:Hid (decide (l=m)=false):=decide_eq_false (HS2.out hxy);clear hxy hdx HS HS2 HT;go_upto_region 6 with fail
     go_region
     all_goals
      go_wp2_with fail;go_ret;exact⟨Z8 (by rw[HN.out]),BL.out.drew⟩
   ·have HN:Hid (decide (l=m)=true):=by
     show _=_;have h:=HT.out;have h2:=HLE.out;rw[List.take_of_length_le (by omega),List.take_of_length_le (by omega)] at h;exact decide_eq_true h
    clear HT HLE;go_wp2_with fail;go_ret;exact⟨Z8 (by rw[HN.out]),BL.out⟩
 ·have HN:Hid (decide (l=m)=false):=decide_eq_false (fun e=>hlen (by rw[e]))
  have hln:¬ (l.length:Int)=m.length:=by omega
  clear hlen;go_enter func40,ntmps40;go_wp2_with fail;go_ret;exact⟨Z8 (by rw[HN.out]),Below.refl _ _⟩
def SameC (f:Mk.Fo):Prop:=∀ (v u:Value) (K K2:Nat→Prop) (w:World),FoV w K v f→FoV w K2 u f→(∀ b,K b→b < w.heap.size)→(∀ b,K2 b→b < w.heap.size)→Calls prog 17 #[v,u] w fun e w'=>e=.returned (.bool true)∧Below w.heap.size w w'
theorem z1k (N:Nat):∀ f:Mk.Fo,f.bulk < N→f.bulk≤33554432→SameC f:=by
 induction N with
 | zero=>intro f hN;omega
 | succ N ih =>
  intro f hN hb v u K K2 w hv hu hK hK2;have hgl:=Mk.Fo.z0m f;obtain⟨ao,cap,hv1,hvm,hvc⟩:=hv.get;obtain⟨au,cau,hu1,hum,huc⟩:=hu.get;subst hv1;subst hu1;have HV:=Ld hvc;have HU:=Ld huc;have HK:=Ld hK;have HK2:=Ld hK2;clear hvc huc hv hu hvm hum hK hK2;go_enter func17,ntmps17;go_wp2_with fail
  go_loopw [5] (fun i wr=>∃ k:Nat,k≤f.len∧i=.int .i64 k∧Hid (Below w.heap.size w wr)) (fun i _=>f.len - (intOf i).toNat)
  case atStart=>exact⟨0,Nat.zero_le _,rfl,Below.refl _ _⟩
  case round =>
   obtain⟨k,hk,rfl,BL⟩:=hrel
   by_cases hlt:k < f.len
   ·obtain⟨n,a,t,kk,r,hd,hd1⟩:=Mk.Fo.z1x f k hlt
    obtain⟨g,o,aoa,capa,aok,capk,rfl,hKg,c0,c1,c2,c3,hva,hvk⟩:=HV.out k n a t kk r hd;obtain⟨g2,o2,aoa2,capa2,aok2,capk2,rfl,hKg2,d0,d1,d2,d3,hva2,hvk2⟩:=HU.out k n a t kk r hd;have hgw:=HK.out g hKg;have hgw2:=HK2.out g2 hKg2;have HFR:Hid (∀ W,Below w.heap.size w W→W.cell? ⟨g,o + k * 4,none⟩=some (.string (st n))∧W.cell? ⟨g,o + k * 4 + 1,none⟩=some (.slice aoa a.length capa)∧W.cell? ⟨g,o + k * 4 + 2,none⟩=some (.string (st t))∧W.cell? ⟨g,o + k * 4 + 3,none⟩=some (.slice aok kk.len capk)∧W.cell? ⟨g2,o2 + k * 4,none⟩=some (.string (st n))∧W.cell? ⟨g2,o2 + k * 4 + 1,none⟩=some (.slice aoa2 a.length capa2)∧W.cell? ⟨g2,o2 + k * 4 + 2,none⟩=some (.string (st t))∧W.cell? ⟨g2,o2 + k * 4 + 3,none⟩=some (.slice aok2 kk.len capk2)):=fun W hW=>⟨(hW.cell (p:=⟨g,_,none⟩) hgw).trans c0,(hW.cell (p:=⟨g,_,none⟩) hgw).trans c1,(hW.cell (p:=⟨g,_,none⟩) hgw).trans c2,(hW.cell (p:=⟨g,_,none⟩) hgw).trans c3,(hW.cell (p:=⟨g2,_,none⟩) hgw2).trans d0,(hW.cell (p:=⟨g2,_,none⟩) hgw2).trans d1,(hW.cell (p:=⟨g2,_,none⟩) hgw2).trans d2,(hW.cell (p:=⟨g2,_,none⟩) hgw2).trans d3⟩
    have hdb:(f.drop k).bulk=1 + n.length + t.length + Mk.Fo.atB a + kk.bulk + r.bulk:=by rw[hd];rfl
    have hdb2:=Mk.Fo.z0s f k;have hatl:=Mk.z1l a;have HSA:Hid (∀ W,Below w.heap.size w W→Calls prog 40 #[.slice aoa a.length capa,.slice aoa2 a.length capa2] W fun e w'=>e=.returned (.bool true)∧Below W.heap.size W w'):=fun W hW=>by
     have h:=z9f a a _ _ K K2 W (hva.below HK.out hW) (hva2.below HK2.out hW) (fun b q=>Nat.lt_of_lt_of_le (HK.out b q) hW.size) (fun b q=>Nat.lt_of_lt_of_le (HK2.out b q) hW.size) (by omega)
     rwa [show decide (a=a)=true from decide_eq_true rfl] at h
    have HSN:Hid (∀ W,Below w.heap.size w W→Calls prog 17 #[.slice aok kk.len capk,.slice aok2 kk.len capk2] W fun e w'=>e=.returned (.bool true)∧Below W.heap.size W w'):=fun W hW=>ih kk (by omega) (by omega) _ _ K K2 W (hvk.below HK.out hW) (hvk2.below HK2.out hW) (fun b q=>Nat.lt_of_lt_of_le (HK.out b q) hW.size) (fun b q=>Nat.lt_of_lt_of_le (HK2.out b q) hW.size)
    obtain⟨p0,p1,p2,p3,s0,s1,s2,s3⟩:=HFR.out wr BL.out;have hki:(k:Int) < f.len:=by omega
    have hk0:(0:Int)≤k:=by omega
    clear hd hd1 hva hva2 hvk hvk2 hdb hdb2 hatl c0 c1 c2 c3 d0 d1 d2 d3 ih HV HU;go_upto_region 6 with fail
    go_region_held3 (fun w'=>w'.cell? ⟨g,o + k * 4,none⟩=some (.string (st n))∧w'.cell? ⟨g,o + k * 4 + 1,none⟩=some (.slice aoa a.length capa)∧w'.cell? ⟨g,o + k * 4 + 2,none⟩=some (.string (st t))∧w'.cell? ⟨g,o + k * 4 + 3,none⟩=some (.slice aok kk.len capk)∧w'.cell? ⟨g2,o2 + k * 4,none⟩=some (.string (st n))∧w'.cell? ⟨g2,o2 + k * 4 + 1,none⟩=some (.slice aoa2 a.length capa2)∧w'.cell? ⟨g2,o2 + k * 4 + 2,none⟩=some (.string (st t))∧w'.cell? ⟨g2,o2 + k * 4 + 3,none⟩=some (.slice aok2 kk.len capk2)) (first
     | exact HFR.out _ BL.out.drew
     | exact HFR.out _ hB2
     | exact HFR.out _ hB3) (first | (go_at_call 40;refine(HSA.out _ BL.out.drew).mono ?_;rintro e w2 ⟨rfl,hb2⟩;have hB2:Below w.heap.size w w2:=BL.out.drew.trans (hb2.mono BL.out.size)) | (go_at_call 17;refine(HSN.out _ hB2).mono ?_;rintro e w3 ⟨rfl,hb3⟩;have hB3:Below w.heap.size w w3:=hB2.trans (hb3.mono hB2.size)))
    all_goals
     have HB3:=Ld hB3;clear hB3 hB2 hb2 hb3 HFR HSA HSN p0 p1 p2 p3 s0 s1 s2 s3;go_wp2_with fail;go_roundw
     case rel=>exact⟨k + 1,by omega,by go_num,HB3.out⟩
     case measure=>simp[intOf];omega
   ·have hke:k=f.len:=by omega
    clear HV HU;go_wp2_with fail;go_ret;exact⟨rfl,BL.out⟩
end Go.Proofs.YtagleefekmdldaaGreatDoor
namespace Mk
namespace Bld
def fos (b:Bld):List Fo := b.root :: b.open_.map Op.kids
def ops (b:Bld):List (Bs × List At) := b.open_.map fun o => (o.name, o.ats)
theorem q7p (b:Bld):(fos b).length=(ops b).length + 1 := by simp[fos, ops]
theorem q6d (b:Bld):b.names=(ops b).map Prod.fst := by simp[names, ops]
theorem z7y (l:List Op):l=[]∨∃ L o, l=L ++ [o] := by
  rcases List.eq_nil_or_concat l with h | ⟨L, o, h⟩
  · exact .inl h
  · exact .inr ⟨L, o, by simpa using h⟩
theorem j2e (r:Fo) (L:List Op) (o:Op) (n:Bs) (a:List At) (t:Bs) (k:Fo):z3u ⟨r, L ++ [o]⟩ n a t k=⟨r, L ++ [{ o with kids := Fo.snoc n a t k o.kids }]⟩ := by
  simp[z3u]
theorem q4n (b:Bld):∃ L f, fos b=L ++ [f] ∧ ∀ n a t k, fos (z3u b n a t k)=L ++ [Fo.snoc n a t k f] ∧ ops (z3u b n a t k)=ops b := by
  obtain⟨r, l⟩ := b
  rcases z7y l with h | ⟨L, o, h⟩
  · subst h
    exact⟨[], r, rfl, fun n a t k => ⟨rfl, rfl⟩⟩
  · subst h
    refine⟨r :: L.map Op.kids, o.kids, by simp[fos], fun n a t k => ?_⟩
    rw[j2e]
    exact⟨by simp[fos], by simp[ops]⟩
theorem pop_snoc (r:Fo) (L:List Op) (o:Op):pop ⟨r, L ++ [o]⟩=z3u ⟨r, L⟩ o.name o.ats [] o.kids := by
  simp[pop]
theorem q8a (b:Bld) (O:List (Bs × List At)) (n:Bs) (a:List At) (h:ops b=O ++ [(n, a)]):∃ L f' f, fos b=L ++ [f', f] ∧ fos (pop b)=L ++ [Fo.snoc n a [] f f'] ∧ ops (pop b)=O := by
  obtain⟨r, l⟩ := b
  rcases z7y l with hl | ⟨L, o, hl⟩
  · subst hl; simp[ops] at h
  · subst hl
    have h1:L.map (fun o => (o.name, o.ats)) ++ [(o.name, o.ats)]=O ++ [(n, a)] := by simpa [ops] using h
    obtain⟨h2, h3⟩ := List.append_inj' h1 rfl
    injection h3 with h3 _
    injection h3 with h3 h4
    rw[pop_snoc, h3, h4]
    obtain⟨L', f', e1, e2⟩ := q4n ⟨r, L⟩
    obtain⟨e3, e4⟩ := e2 n a [] o.kids
    refine⟨L', f', o.kids, ?_, e3, by rw[e4]; exact h2⟩
    have:fos ⟨r, L ++ [o]⟩=fos ⟨r, L⟩ ++ [o.kids] := by simp[fos]
    rw[this, e1]; simp
theorem q4m (b:Bld) (n:Bs) (a:List At):fos { b with open_ := b.open_ ++ [⟨n, a, .nil⟩] } = fos b ++ [.nil] ∧ ops { b with open_ := b.open_ ++ [⟨n, a, .nil⟩] } = ops b ++ [(n, a)] := by
  simp[fos, ops]
theorem z5a (b:Bld):(ops b).length=b.open_.length := by simp[ops]
def opB (l:List (Bs × List At)):Nat := (l.map fun o => 1 + o.1.length + Fo.atB o.2).sum
def foB (l:List Fo):Nat := (l.map Fo.bulk).sum
theorem q88 (l m:List (Bs × List At)):opB (l ++ m)=opB l + opB m := by simp[opB]
theorem z4w (l m:List Fo):foB (l ++ m)=foB l + foB m := by simp[foB]
theorem z4x (f:Fo):foB [f]=Fo.bulk f := by simp[foB]
theorem q89 (n:Bs) (a:List At):opB [(n, a)]=1 + n.length + Fo.atB a := by simp[opB]
def bulk (b:Bld):Nat := foB (fos b) + opB (ops b)
theorem q9i (b:Bld) (n:Bs) (a:List At) (t:Bs) (k:Fo):bulk (z3u b n a t k) ≤ bulk b + (1 + n.length + t.length + Fo.atB a + Fo.bulk k) := by
  obtain⟨L, f, h1, h2⟩ := q4n b
  obtain⟨h3, h4⟩ := h2 n a t k
  have := Fo.z4g f n a t k
  unfold bulk
  rw[h1, h3, h4, z4w, z4w, z4x, z4x]
  omega
theorem q9g (b:Bld):bulk (pop b) ≤ bulk b := by
  obtain⟨r, l⟩ := b
  rcases z7y l with hl | ⟨L, o, hl⟩
  · subst hl; exact Lr
  · subst hl
    obtain⟨L', f', f, h1, h2, h3⟩ := q8a ⟨r, L ++ [o]⟩ (ops ⟨r, L⟩) o.name o.ats (by simp[ops])
    have h4:ops ⟨r, L ++ [o]⟩=ops ⟨r, L⟩ ++ [(o.name, o.ats)] := by simp[ops]
    have := Fo.z4g f' o.name o.ats [] f
    unfold bulk
    rw[h1, h2, h3, h4, show L' ++ [f', f]=L' ++ [f'] ++ [f] by simp, z4w, z4w, z4w, z4x, z4x, z4x, q88, q89]
    simp only [List.length_nil] at this
    omega
theorem q0v:∀ (n:Nat) (b:Bld), bulk (z3z n b) ≤ bulk b
  | 0, _ => Lr
  | n + 1, b => Nat.le_trans (q0v n _) (q9g b)
theorem q4k (b:Bld):(ops (pop b)).length=(ops b).length - 1 := by
  obtain⟨r, l⟩ := b
  rcases z7y l with hl | ⟨L, o, hl⟩
  · subst hl; rfl
  · subst hl
    obtain⟨_, _, _, _, _, h3⟩ := q8a ⟨r, L ++ [o]⟩ (ops ⟨r, L⟩) o.name o.ats (by simp[ops])
    rw[h3]; simp[ops]
theorem j0u (n:Nat) (b:Bld):z3z (n + 1) b=z3z n b.pop := rfl
end Bld
end Mk
namespace Go.Proofs.YtagleefekmdldaaGreatDoor
open Go.RowKit
def z1t (w:World) (K:Nat → Prop):List (Mk.Bs × List Mk.At) → List Value → Prop
  | [], xs => xs=[]
  | o :: r, xs => ∃ va ys, xs=[.string (st o.1), va, .string (st []), .slice none 0 0] ++ ys ∧ AtsV w K va o.2 ∧ z1t w K r ys
theorem z1t.frame {w w':World} {K K':Nat → Prop} (hk:∀ b, K b → K' b ∧ w'.heap[b]? = w.heap[b]?):∀ {l:List (Mk.Bs × List Mk.At)} {xs:List Value}, z1t w K l xs → z1t w' K' l xs
  | [], _, h => h
  | _ :: _, _, ⟨va, ys, h1, h2, h3⟩ => ⟨va, ys, h1, h2.frame hk, z1t.frame hk h3⟩
theorem z1t.length {w:World} {K:Nat → Prop}:∀ {l:List (Mk.Bs × List Mk.At)} {xs:List Value}, z1t w K l xs → xs.length=l.length * 4
  | [], _, h => by rw[h]; rfl
  | t :: r, _, ⟨va, ys, h1, _, h3⟩ => by rw[h1, List.length_append, h3.length, List.length_cons]; simp; omega
theorem z1t.snoc {w:World} {K:Nat → Prop} {n:List UInt8} {a:List Mk.At} {va:Value} (ha:AtsV w K va a):∀ {l:List (Mk.Bs × List Mk.At)} {xs:List Value}, z1t w K l xs → z1t w K (l ++ [(n, a)]) (xs ++ [.string (st n), va, .string (st []), .slice none 0 0])
  | [], _, h => by rw[h]; exact⟨va, [], rfl, ha, rfl⟩
  | _ :: _, _, ⟨vb, ys, h1, h2, h3⟩ => ⟨vb, _, by rw[h1, List.append_assoc], h2, h3.snoc ha⟩
theorem z1t.last {w:World} {K:Nat → Prop} {n:List UInt8} {a:List Mk.At}:∀ {l:List (Mk.Bs × List Mk.At)} {xs:List Value}, z1t w K (l ++ [(n, a)]) xs → ∃ va ys, xs=ys ++ [.string (st n), va, .string (st []), .slice none 0 0] ∧ AtsV w K va a ∧ z1t w K l ys
  | [], _, ⟨va, ys, h1, h2, h3⟩ => ⟨va, [], by rw[h1, show ys=[] from h3]; rfl, h2, rfl⟩
  | o :: r, _, ⟨vb, ys, h1, h2, h3⟩ => by
    obtain⟨va, zs, e1, e2, e3⟩ := z1t.last h3
    exact⟨va, _ ++ zs, by rw[h1, e1, List.append_assoc], e2, vb, zs, rfl, h2, e3⟩
theorem z1t.at_ {w:World} {K:Nat → Prop}:∀ {l:List (Mk.Bs × List Mk.At)} {xs:List Value}, z1t w K l xs → ∀ (i:Nat) (n:List UInt8) (a:List Mk.At), l[i]? = some (n, a) → ∃ va, AtsV w K va a ∧ xs[i * 4]? = some (.string (st n)) ∧ xs[i * 4 + 1]? = some va ∧ xs[i * 4 + 2]? = some (.string (st [])) ∧ xs[i * 4 + 3]? = some (.slice none 0 0)
  | [], _, _, i, n, a, hi => by simp at hi
  | o :: r, _, ⟨vb, ys, h1, h2, h3⟩, 0, n, a, hi => by
    simp at hi
    subst hi
    rw[h1]
    exact⟨vb, h2, rfl, rfl, rfl, rfl⟩
  | o :: r, _, ⟨vb, ys, h1, h2, h3⟩, i + 1, n, a, hi => by
    obtain⟨va, e0, e1, e2, e3, e4⟩ := z1t.at_ h3 i n a (by simpa using hi)
    rw[h1]
    refine⟨va, e0, ?_, ?_, ?_, ?_⟩
    · rw[show (i + 1) * 4=i * 4 + 4 by omega, List.getElem?_append_right (by simp)]; simpa using e1
    · rw[show (i + 1) * 4 + 1=i * 4 + 1 + 4 by omega, List.getElem?_append_right (by simp)]; simpa using e2
    · rw[show (i + 1) * 4 + 2=i * 4 + 2 + 4 by omega, List.getElem?_append_right (by simp)]; simpa using e3
    · rw[show (i + 1) * 4 + 3=i * 4 + 3 + 4 by omega, List.getElem?_append_right (by simp)]; simpa using e4

structure BldV (w:World) (B P:Nat) (K:Nat → Prop) (fs:List Mk.Fo) (os:List (Mk.Bs × List Mk.At)) (vn vo:Value) (ns xo:List Value):Prop where
  blk:Blk w P 92 #[vn, vo]
  hP:B ≤ P
  nK:¬ K P
  kle:∀ b, K b → B ≤ b ∧ b < w.heap.size
  rn:w.ownsRow B 22 1 vn fs.length ns
  ro:w.ownsRow B 38 4 vo os.length xo
  oc:z1t w K os xo
  fo:∀ (i:Nat) (f:Mk.Fo) (v:Value), fs[i]? = some f → ns[i]? = some v → ∃ xs, OwnF w B K v f xs
  dn:∀ g, vn.ownBlock=some g → g ≠ P ∧ ¬ K g
  do_:∀ g, vo.ownBlock=some g → g ≠ P ∧ ¬ K g ∧ vn.ownBlock ≠ some g
  df:∀ (i:Nat) (v:Value) (g:Nat), ns[i]? = some v → v.ownBlock=some g → g ≠ P ∧ vn.ownBlock ≠ some g ∧ vo.ownBlock ≠ some g ∧ ∀ (j:Nat) (u:Value), ns[j]? = some u → u.ownBlock=some g → i=j
section
variable {w w' : World} {B P : Nat} {K K' : Nat → Prop} {fs L : List Mk.Fo} {os : List (Mk.Bs × List Mk.At)} {vn vo : Value} {ns xo : List Value}
theorem z0f {size n:Nat} {e:TypeId} {v:Value} {xs:List Value} (h:w.ownsRow B e size v n xs) (hk:∀ g, v.ownBlock=some g → w'.heap[g]? = w.heap[g]?):w'.ownsRow B e size v n xs := by
  refine⟨h.1, h.2.imp id ?_⟩
  rintro ⟨g, cap, cur, h1, h2, h3, h4⟩
  exact⟨g, cap, cur, h1, h2, (hk g (by rw[h1]; rfl)).trans h3, h4⟩
theorem BldV.nlen (h:BldV w B P K fs os vn vo ns xo):ns.length=fs.length := by have := h.rn.1; omega
theorem BldV.below (h:BldV w B P K fs os vn vo ns xo) (hb:Below w.heap.size w w'):BldV w' B P K fs os vn vo ns xo :=
  ⟨(hb.block P (Blk.lt h.blk)).trans h.blk, h.hP, h.nK, fun b q => ⟨(h.kle b q).1, Nat.lt_of_lt_of_le (h.kle b q).2 hb.size⟩,
   z0f h.rn fun g hg => hb.block g (h.rn.lt g hg).2, z0f h.ro fun g hg => hb.block g (h.ro.lt g hg).2,
   h.oc.frame fun b q => ⟨q, hb.block b (h.kle b q).2⟩,
   fun i f v h1 h2 => by
     obtain⟨xs, o⟩ := h.fo i f v h1 h2
     exact⟨xs, o.frame hb.size fun b q _ => hb.block b q⟩,
   h.dn, h.do_, h.df⟩
theorem BldV.blt (h:BldV w B P K fs os vn vo ns xo):B ≤ w.heap.size := Nat.le_trans h.hP (Nat.le_of_lt (Blk.lt h.blk))
theorem BldV.more (h:BldV w B P K fs os vn vo ns xo) (hK:∀ b, K b → K' b) (h1:∀ b, K' b → B ≤ b ∧ b < w.heap.size) (h2:∀ b, K' b → b ≠ P ∧ vn.ownBlock ≠ some b ∧ vo.ownBlock ≠ some b ∧ ∀ (i:Nat) (v:Value), ns[i]? = some v → v.ownBlock ≠ some b):BldV w B P K' fs os vn vo ns xo :=
  ⟨h.blk, h.hP, fun q => (h2 P q).1 rfl, h1, h.rn, h.ro, h.oc.frame fun b q => ⟨hK b q, rfl⟩,
   fun i f v e1 e2 => by
     obtain⟨xs, o⟩ := h.fo i f v e1 e2
     exact⟨xs, o.own, o.cells.frame (fun b q => ⟨hK b q, rfl⟩), fun g hg q => (h2 g q).2.2.2 i v e2 hg, fun b q => (h1 b q).2⟩,
   fun g hg => ⟨(h.dn g hg).1, fun q => (h2 g q).2.1 hg⟩, fun g hg => ⟨(h.do_ g hg).1, fun q => (h2 g q).2.2.1 hg, (h.do_ g hg).2.2⟩, h.df⟩
theorem BldV.own_at (h:BldV w B P K fs os vn vo ns xo) {i:Nat} {v:Value} (hv:ns[i]? = some v):∃ f xs, OwnF w B K v f xs ∧ i < ns.length := by
  have h1:i < ns.length := by
    rcases Nat.lt_or_ge i ns.length with q | q
    · exact q
    · rw[List.getElem?_eq_none q] at hv; cases hv
  have h2:i < fs.length := by rw[← h.nlen]; exact h1
  obtain⟨xs, o⟩ := h.fo i fs[i] v (List.getElem?_eq_getElem h2) hv
  exact⟨_, xs, o, h1⟩
theorem z0r {α:Type _} (l:List α) (x:α) (n:Nat) (h:n=l.length):(l ++ [x])[n]? = some x := by subst h; simp
theorem BldV.last {f:Mk.Fo} (h:BldV w B P K (L ++ [f]) os vn vo ns xo):∃ g cap v xs, vn=.slice (some ⟨g, 0, none⟩) (L.length + 1) cap ∧ w.cell? ⟨g, L.length, none⟩=some v ∧ ns[L.length]? = some v ∧ OwnF w B K v f xs ∧ (∀ i, w.frozen? ⟨g, i, none⟩=false) := by
  rcases h.rn.2 with ⟨_, h0⟩ | ⟨g, cap, cur, hv, hb, hh, hnc, hcm, hcs, ht⟩
  · simp at h0
  · have hl := h.nlen
    rw[List.length_append, List.length_singleton] at hl hv
    have hi:L.length < ns.length := by omega
    have hv1:ns[L.length]? = some ns[L.length] := List.getElem?_eq_getElem hi
    obtain⟨xs, ho⟩ := h.fo L.length f _ (z0r L f _ rfl) hv1
    have hc := h.rn.cells (g := g) (by rw[hv]; rfl) _ _ hv1
    have e0:∀ j, (⟨g, 0, none⟩:Addr).add j=⟨g, j, none⟩ := by intro j; unfold Addr.add; split <;> simp_all
    rw[e0] at hc
    exact⟨g, cap, _, xs, hv, hc, hv1, ho, fun i => by simp[World.frozen?, hh]⟩
theorem BldV.turn {f f':Mk.Fo} {v:Value} {xs:List Value} (h:BldV w B P K (L ++ [f]) os vn vo ns xo) (hv:ns[L.length]? = some v) (ho:OwnF w' B K v f' xs) (hs:w.heap.size ≤ w'.heap.size) (hb:∀ b, b < w.heap.size → v.ownBlock ≠ some b → w'.heap[b]? = w.heap[b]?):BldV w' B P K (L ++ [f']) os vn vo ns xo := by
  have hd := h.df L.length v
  have kp:∀ b, K b → K b ∧ w'.heap[b]? = w.heap[b]? := fun b q => ⟨q, hb b (h.kle b q).2 fun e => ho.ne b e q⟩
  refine⟨(hb P (Blk.lt h.blk) fun e => (hd P hv e).1 rfl).trans h.blk, h.hP, h.nK, fun b q => ⟨(h.kle b q).1, Nat.lt_of_lt_of_le (h.kle b q).2 hs⟩,
    z0f (by have := h.rn; rwa [List.length_append] at this ⊢) fun g hg => hb g (h.rn.lt g hg).2 fun e => (hd g hv e).2.1 hg, z0f h.ro fun g hg => hb g (h.ro.lt g hg).2 fun e => (hd g hv e).2.2.1 hg,
    h.oc.frame kp, ?_, h.dn, h.do_, h.df⟩
  intro i f1 v1 e1 e2
  rcases Nat.lt_trichotomy i L.length with hi | hi | hi
  · rw[List.getElem?_append_left hi] at e1
    obtain⟨xs1, o⟩ := h.fo i f1 v1 (by rw[List.getElem?_append_left hi]; exact e1) e2
    refine⟨xs1, o.frame hs fun b q1 q2 => hb b q1 fun e => ?_⟩
    rcases q2 with q2 | q2
    · exact ho.ne b e q2
    · have := (hd b hv e).2.2.2 i v1 e2 q2
      omega
  · subst hi
    rw[z0r L f' _ rfl] at e1
    injection e1 with e1
    rw[hv] at e2
    injection e2 with e2
    subst e1; subst e2
    exact⟨xs, ho⟩
  · rw[List.getElem?_eq_none (by simp; omega)] at e1
    cases e1
theorem BldV.swap {f f':Mk.Fo} {v v':Value} {xs:List Value} {gn:Nat} (h:BldV w B P K (L ++ [f]) os vn vo ns xo) (hn:vn.ownBlock=some gn) (hv:ns[L.length]? = some v) (ho:OwnF w' B K v' f' xs) (hs:w.heap.size ≤ w'.heap.size)
    (hfr:v'.ownBlock=v.ownBlock∨∃ g, v'.ownBlock=some g ∧ w.heap.size ≤ g) (hb:∀ b, b < w.heap.size → v.ownBlock ≠ some b → b ≠ gn → w'.heap[b]? = w.heap[b]?)
    (hrn:w'.ownsRow B 22 1 vn (L.length + 1) (ns.set L.length v')) (hnK:∀ g, v.ownBlock=some g → ¬ K g):BldV w' B P K (L ++ [f']) os vn vo (ns.set L.length v') xo := by
  have hd := h.df L.length v
  have kp:∀ b, K b → K b ∧ w'.heap[b]? = w.heap[b]? := fun b q => ⟨q, hb b (h.kle b q).2 (fun e => hnK b e q) (fun e => (h.dn gn hn).2 (e ▸ q))⟩
  have hil:L.length < ns.length := by have := h.nlen; simp at this; omega
  have fr:∀ g, v'.ownBlock=some g → v.ownBlock=some g∨w.heap.size ≤ g := by
    intro g hg
    rcases hfr with e | ⟨b, e, hle⟩
    · exact .inl (by rw[← e]; exact hg)
    · rw[e] at hg; injection hg with hg; exact .inr (by omega)
  have hPl := Blk.lt h.blk
  have nw:∀ g, v'.ownBlock=some g → g ≠ P ∧ vn.ownBlock ≠ some g ∧ vo.ownBlock ≠ some g := by
    intro g hg
    rcases fr g hg with e | e
    · exact⟨(hd g hv e).1, (hd g hv e).2.1, (hd g hv e).2.2.1⟩
    · refine⟨by omega, fun q => ?_, fun q => ?_⟩
      · have := (h.rn.lt g q).2; omega
      · have := (h.ro.lt g q).2; omega
  refine⟨(hb P hPl (fun e => (hd P hv e).1 rfl) (fun e => (h.dn gn hn).1 e.symm)).trans h.blk, h.hP, h.nK, fun b q => ⟨(h.kle b q).1, Nat.lt_of_lt_of_le (h.kle b q).2 hs⟩,
    by rw[List.length_append]; exact hrn, z0f h.ro fun g hg => hb g (h.ro.lt g hg).2 (fun e => (hd g hv e).2.2.1 hg) (fun e => (h.do_ g hg).2.2 (by rw[hn, e])),
    h.oc.frame kp, ?_, h.dn, h.do_, ?_⟩
  · intro i f1 v1 e1 e2
    rcases Nat.lt_trichotomy i L.length with hi | hi | hi
    · rw[List.getElem?_append_left hi] at e1
      rw[List.getElem?_set_ne (by omega)] at e2
      obtain⟨xs1, o⟩ := h.fo i f1 v1 (by rw[List.getElem?_append_left hi]; exact e1) e2
      refine⟨xs1, o.frame hs fun b q1 q2 => ?_⟩
      rcases q2 with q2 | q2
      · exact(kp b q2).2
      · refine hb b q1 (fun e => ?_) (fun e => (h.df i v1 b e2 q2).2.1 (by rw[hn, e]))
        have := (hd b hv e).2.2.2 i v1 e2 q2
        omega
    · subst hi
      rw[z0r L f' _ rfl] at e1
      injection e1 with e1
      rw[List.getElem?_set_self hil] at e2
      injection e2 with e2
      subst e1; subst e2
      exact⟨xs, ho⟩
    · rw[List.getElem?_eq_none (by simp; omega)] at e1
      cases e1
  · intro i u g e1 e2
    rcases Nat.lt_trichotomy i L.length with hi | hi | hi
    · rw[List.getElem?_set_ne (by omega)] at e1
      obtain⟨a1, a2, a3, a4⟩ := h.df i u g e1 e2
      refine⟨a1, a2, a3, fun j x e3 e4 => ?_⟩
      by_cases hj:j=L.length
      · subst hj
        rw[List.getElem?_set_self hil] at e3
        injection e3 with e3
        subst e3
        rcases fr g e4 with e | e
        · exact a4 _ _ hv e
        · obtain⟨_, xs1, o, _⟩ := h.own_at e1
          have := (o.own.lt g e2).2
          omega
      · rw[List.getElem?_set_ne (by omega)] at e3
        exact a4 j x e3 e4
    · subst hi
      rw[List.getElem?_set_self hil] at e1
      injection e1 with e1
      subst e1
      obtain⟨a1, a2, a3⟩ := nw g e2
      refine⟨a1, a2, a3, fun j x e3 e4 => ?_⟩
      by_cases hj:j=L.length
      · exact hj.symm
      · rw[List.getElem?_set_ne (by omega)] at e3
        rcases fr g e2 with e | e
        · exact(hd g hv e).2.2.2 j x e3 e4
        · obtain⟨_, xs1, o, _⟩ := h.own_at e3
          have := (o.own.lt g e4).2
          omega
    · rw[List.getElem?_set_ne (by omega)] at e1
      have h1:i < ns.length := by
        rcases Nat.lt_or_ge i ns.length with q | q
        · exact q
        · rw[List.getElem?_eq_none q] at e1; cases e1
      have := h.nlen
      simp at this
      omega
end
theorem q3h (w:World) (p:Addr) (v:Value):(w.setCell p v).os=w.os:=rfl
theorem z9h (w:World) (p:Addr) (v:Value):(w.setCell p v).tape=w.tape:=rfl
theorem z6v (w:World) (p:Addr) (v:Value):(w.setCell p v).output=w.output:=rfl
theorem z7u (w:World) (p q:Addr) (u v:Value) (h:p.block ≠ q.block):((w.setCell p u).setCell q v).heap=((w.setCell q v).setCell p u).heap:=by
 apply Array.ext_getElem?
 intro b;simp only [World.setCell,Array.getElem?_modify]
 by_cases h1:p.block=b
 ·have h2:¬ q.block=b:=fun e=>h (h1.trans e.symm)
  simp[h1,h2]
 ·simp[h1]
theorem heap_set (w w':World) (h:w.heap=w'.heap) (p:Addr) (u:Value):(w.setCell p u).heap=(w'.setCell p u).heap:=by
 simp only [World.setCell,h]
theorem z8m (w:World) (q p0 p1 p2 p3:Addr) (v u0 u1 u2 u3:Value) (h0:p0.block ≠ q.block) (h1:p1.block ≠ q.block) (h2:p2.block ≠ q.block) (h3:p3.block ≠ q.block) :
  (((((w.setCell q v).setCell p0 u0).setCell p1 u1).setCell p2 u2).setCell p3 u3).heap=(((((w.setCell p0 u0).setCell p1 u1).setCell p2 u2).setCell p3 u3).setCell q v).heap:=by
 rw[z7u _ p3 q u3 v h3]
 apply heap_set
 rw[z7u _ p2 q u2 v h2]
 apply heap_set
 rw[z7u _ p1 q u1 v h1]
 apply heap_set
 exact(z7u _ p0 q u0 v h0).symm
theorem and_fin {A B C:Prop} (h:A∧B) (f:B→C):A∧C:=⟨h.1,f h.2⟩
theorem set4 {xs:List Value} {m:Nat} (h:xs.length=m) (a b c d a' b' c' d':Value):((((xs++[a,b,c,d]).set m a').set (m + 1) b').set (m + 2) c').set (m + 3) d'=xs++[a',b',c',d']:=by
 subst h;simp[List.set_append_right]
section
variable {w1 w9 w10 : World} {B P gn capn : Nat} {K : Nat→Prop} {L : List Mk.Fo} {f : Mk.Fo} {os : List (Mk.Bs × List Mk.At)} {vo v' : Value} {ns xo xs : List Value} {ao0 : Option Addr} {cap0 : Nat}
theorem j0m (h:BldV w1 B P K (L++[f]) os (.slice (some ⟨gn,0,none⟩) (L.length + 1) capn) vo ns xo) (hns:ns[L.length]? = some (.slice ao0 f.len cap0)) (hcn:w1.cell? ⟨gn,L.length,none⟩=some (.slice ao0 f.len cap0))
  (hx:xs.length=f.len * 4) (hb9:Below w1.heap.size w1 w9) (hown:w10.ownsRow B 38 4 v' (f.len + 1) (xs++[.string ⟨#[]⟩,.slice none 0 0,.string ⟨#[]⟩,.slice none 0 0])) (hg:w9.grownBy w10 (Value.slice ao0 f.len cap0).ownBlock)
  (hf:v'.ownBlock=(Value.slice ao0 f.len cap0).ownBlock∨v'.ownBlock=some w9.heap.size) :
  ∃ g' cap',v'=.slice (some ⟨g',0,none⟩) (f.len + 1) cap'∧w10.cell? ⟨g',f.len * 4,none⟩=some (.string ⟨#[]⟩)∧w10.cell? ⟨g',f.len * 4 + 1,none⟩=some (.slice none 0 0)∧w10.cell? ⟨g',f.len * 4 + 2,none⟩=some (.string ⟨#[]⟩)∧w10.cell? ⟨g',f.len * 4 + 3,none⟩=some (.slice none 0 0)∧(∀ i,w10.frozen? ⟨g',i,none⟩=false)∧w10.cell? ⟨gn,L.length,none⟩=some (.slice ao0 f.len cap0)∧w10.frozen? ⟨gn,L.length,none⟩=false∧gn ≠ g'∧(∀ b,b < w1.heap.size→(Value.slice ao0 f.len cap0).ownBlock ≠ some b→w10.heap[b]? = w1.heap[b]?):=by
 have hgn:(Value.slice (some ⟨gn,0,none⟩) (L.length + 1) capn).ownBlock=some gn:=rfl;have hgl:=(h.rn.lt gn hgn).2;have hne0:(Value.slice ao0 f.len cap0).ownBlock ≠ some gn:=fun e=>(h.df _ _ gn hns e).2.1 rfl
 have hw:w10.heap[gn]? = w1.heap[gn]?:=(hg.block gn (Nat.lt_of_lt_of_le hgl hb9.size) (fun e=>hne0 e.symm)).trans (hb9.block gn hgl)
 rcases hown.2 with ⟨_,h0⟩ | ⟨g',cap',cur,hv,hb,hh,hnc,hcm,hcs,ht⟩
 ·omega
 ·have hc:=hown.cells (g:=g') (by rw[hv];rfl)
  have e0:∀ j,(⟨g',0,none⟩:Addr).add j=⟨g',j,none⟩:=by intro j;unfold Addr.add;split <;> simp_all
  have hcc:∀ i u,[Value.string ⟨#[]⟩,.slice none 0 0,.string ⟨#[]⟩,.slice none 0 0][i]? = some u→w10.cell? ⟨g',f.len * 4 + i,none⟩=some u:=by
   intro i u hu;have:=hc (f.len * 4 + i) u (by rw[List.getElem?_append_right (by omega),hx];simpa using hu)
   rwa [e0] at this
  refine⟨g',cap',hv,hcc 0 _ rfl,hcc 1 _ rfl,hcc 2 _ rfl,hcc 3 _ rfl,fun i=>by simp[World.frozen?,hh],(cell_of_block hw _).trans hcn,?_,?_,fun b h1 h2=>(hg.block b (Nat.lt_of_lt_of_le h1 hb9.size) (fun e=>h2 e.symm)).trans (hb9.block b h1)⟩
  ·obtain⟨g2,cap2,cur2,hv2,_,hh2,_⟩:∃ g2 cap2 cur2,(Value.slice (some ⟨gn,0,none⟩) (L.length + 1) capn)=.slice (some ⟨g2,0,none⟩) (L.length + 1) cap2∧B≤g2∧w1.heap[g2]? = some (.cells cur2 22 (0,0))∧True:=by
    rcases h.rn.2 with ⟨hq,_⟩ | ⟨g2,cap2,cur2,hv2,hb2,hh2,_⟩
    ·cases hq
    ·exact⟨g2,cap2,cur2,by rw[List.length_append] at hv2;exact hv2,hb2,hh2,trivial⟩
   injection hv2 with hv2 _ _;injection hv2 with hv2;injection hv2 with hv2;subst hv2;simp[World.frozen?,hw,hh2]
  ·rintro rfl
   rcases hf with e | e
   ·rw[hv] at e;exact hne0 e.symm
   ·rw[hv] at e
    have e:some gn=some w9.heap.size:=e;injection e with e;have:=hb9.size;omega
theorem bld_done (h:BldV w1 B P K (L++[f]) os (.slice (some ⟨gn,0,none⟩) (L.length + 1) capn) vo ns xo) (hns:ns[L.length]? = some (.slice ao0 f.len cap0)) (hof:OwnF w1 B K (.slice ao0 f.len cap0) f xs) (hb9:Below w1.heap.size w1 w9) {g' cap':Nat}
  (hown:w10.ownsRow B 38 4 (.slice (some ⟨g',0,none⟩) (f.len + 1) cap') (f.len + 1) (xs++[.string ⟨#[]⟩,.slice none 0 0,.string ⟨#[]⟩,.slice none 0 0])) (hg:w9.grownBy w10 (Value.slice ao0 f.len cap0).ownBlock)
  (hf:(Value.slice (some ⟨g',0,none⟩) (f.len + 1) cap').ownBlock=(Value.slice ao0 f.len cap0).ownBlock∨(Value.slice (some ⟨g',0,none⟩) (f.len + 1) cap').ownBlock=some w9.heap.size) (hgg:gn ≠ g')
  {n:List UInt8} {a:List Mk.At} {t:List UInt8} {k:Mk.Fo} {va:Value} {ao:Option Addr} {cap:Nat} {zs:List Value} (h2:AtsV w1 K va a) (h3:z1v w1 K ao zs) (h4:k.len≤maxLen) (h5:Y0 w1 K k zs) (hm:f.merges n=false) {wF:World}
  (hF:wF.heap=(((((w10.setCell ⟨g',f.len * 4,none⟩ (.string (st n))).setCell ⟨g',f.len * 4 + 1,none⟩ va).setCell ⟨g',f.len * 4 + 2,none⟩ (.string (st t))).setCell ⟨g',f.len * 4 + 3,none⟩ (.slice ao k.len cap)).setCell ⟨gn,L.length,none⟩ (.slice (some ⟨g',0,none⟩) (f.len + 1) cap')).heap∨wF.heap=(((((w10.setCell ⟨gn,L.length,none⟩ (.slice (some ⟨g',0,none⟩) (f.len + 1) cap')).setCell ⟨g',f.len * 4,none⟩ (.string (st n))).setCell ⟨g',f.len * 4 + 1,none⟩ va).setCell ⟨g',f.len * 4 + 2,none⟩ (.string (st t))).setCell ⟨g',f.len * 4 + 3,none⟩ (.slice ao k.len cap)).heap) (ho:wF.os=w10.os) (htp:wF.tape=w10.tape) (hout:wF.output=w10.output) :
  (∃ ns',BldV wF B P K (L++[Mk.Fo.snoc n a t k f]) os (.slice (some ⟨gn,0,none⟩) (L.length + 1) capn) vo ns' xo)∧Ap (fun b=>B≤b∧¬ K b) w1 wF:=by
 have hF:wF.heap=(((((w10.setCell ⟨g',f.len * 4,none⟩ (.string (st n))).setCell ⟨g',f.len * 4 + 1,none⟩ va).setCell ⟨g',f.len * 4 + 2,none⟩ (.string (st t))).setCell ⟨g',f.len * 4 + 3,none⟩ (.slice ao k.len cap)).setCell ⟨gn,L.length,none⟩ (.slice (some ⟨g',0,none⟩) (f.len + 1) cap')).heap:=by
  rcases hF with h | h
  ·exact h
  ·exact h.trans (z8m _ _ _ _ _ _ _ _ _ _ _ (fun e=>hgg e.symm) (fun e=>hgg e.symm) (fun e=>hgg e.symm) (fun e=>hgg e.symm))
 have hgn:(Value.slice (some ⟨gn,0,none⟩) (L.length + 1) capn).ownBlock=some gn:=rfl;have hg':(Value.slice (some ⟨g',0,none⟩) (f.len + 1) cap').ownBlock=some g':=rfl;have hgl:=h.rn.lt gn hgn;have hlen:=hof.cells.length;have S1:=z3t hown hg' (f.len * 4) (.string (st n));have S2:=z3t S1 hg' (f.len * 4 + 1) va;have S3:=z3t S2 hg' (f.len * 4 + 2) (.string (st t));have S4:=z3t S3 hg' (f.len * 4 + 3) (.slice ao k.len cap);rw[set4 hlen] at S4;have S5:=ownsRow_setCell_other S4 (a:=⟨gn,L.length,none⟩) (by rw[hg'];intro e;injection e with e;exact hgg e.symm) (.slice (some ⟨g',0,none⟩) (f.len + 1) cap');have SF:wF.ownsRow B 38 4 (.slice (some ⟨g',0,none⟩) (f.len + 1) cap') (f.len + 1) (xs++[.string (st n),va,.string (st t),.slice ao k.len cap]):=z0f S5 (fun g _=>by rw[hF]);have hbF:∀ b,b ≠ g'→b ≠ gn→wF.heap[b]? = w10.heap[b]?:=by
  intro b h1 h2;rw[hF,Below.heap_setCell _ ⟨gn,L.length,none⟩ _ b h2,Below.heap_setCell _ ⟨g',f.len * 4 + 3,none⟩ _ b h1,Below.heap_setCell _ ⟨g',f.len * 4 + 2,none⟩ _ b h1,Below.heap_setCell _ ⟨g',f.len * 4 + 1,none⟩ _ b h1,Below.heap_setCell _ ⟨g',f.len * 4,none⟩ _ b h1]
 have fr:g' < w1.heap.size→(Value.slice ao0 f.len cap0).ownBlock=some g':=by
  intro hlt
  rcases hf with e | e
  ·rw[← e];exact hg'
  ·rw[hg'] at e;injection e with e;have:=hb9.size;omega
 have hsz:w10.heap.size=wF.heap.size:=by rw[hF];simp[World.setCell]
 have hs:w1.heap.size≤wF.heap.size:=by rw[← hsz];exact Nat.le_trans hb9.size hg.size
 have hb:∀ b,b < w1.heap.size→(Value.slice ao0 f.len cap0).ownBlock ≠ some b→b ≠ gn→wF.heap[b]? = w1.heap[b]?:=by
  intro b h1 h2 h3;rw[hbF b (by rintro rfl;exact h2 (fr h1)) h3,hg.block b (Nat.lt_of_lt_of_le h1 hb9.size) (fun e=>h2 e.symm),hb9.block b h1]
 have hKn:∀ b,K b→wF.heap[b]? = w1.heap[b]?:=fun b q=>hb b (hof.le b q) (fun e=>hof.ne b e q) (fun e=>(h.dn gn hgn).2 (e ▸ q))
 have hne0:(Value.slice ao0 f.len cap0).ownBlock ≠ some gn:=fun e=>(h.df _ _ gn hns e).2.1 rfl
 have hw:w10.heap[gn]? = w1.heap[gn]?:=(hg.block gn (Nat.lt_of_lt_of_le hgl.2 hb9.size) (fun e=>hne0 e.symm)).trans (hb9.block gn hgl.2);refine⟨⟨_,h.swap hgn hns (v':=.slice (some ⟨g',0,none⟩) (f.len + 1) cap') (f':=Mk.Fo.snoc n a t k f) (xs:=xs++[.string (st n),va,.string (st t),.slice ao k.len cap]) ⟨?_,?_,?_,?_⟩ hs ?_ hb ?_ hof.ne⟩,?_⟩
 ·rw[Mk.Fo.z5d f n a t k hm];exact SF
 ·exact(Y0.push h2 h3 h4 h5 f xs hof.cells hm).frame fun b q=>⟨q,hKn b q⟩
 ·intro g e q
  rw[hg'] at e;injection e with e;subst e;exact hof.ne _ (fr (hof.le _ q)) q
 ·exact fun b q=>Nat.lt_of_lt_of_le (hof.le b q) hs
 ·rcases hf with e | e
  ·exact .inl e
  ·exact .inr ⟨_,e,hb9.size⟩
 ·have hrn:=h.rn
  rw[List.length_append] at hrn;have R10:w10.ownsRow B 22 1 (.slice (some ⟨gn,0,none⟩) (L.length + 1) capn) (L.length + 1) ns:=z0f hrn (fun g e=>by rw[hgn] at e;injection e with e;rw[← e];exact hw);have R11:=z0f R10 (w':=(((w10.setCell ⟨g',f.len * 4,none⟩ (.string (st n))).setCell ⟨g',f.len * 4 + 1,none⟩ va).setCell ⟨g',f.len * 4 + 2,none⟩ (.string (st t))).setCell ⟨g',f.len * 4 + 3,none⟩ (.slice ao k.len cap)) (fun g e=>by
   rw[hgn] at e;injection e with e;have h1:g ≠ g':=by rw[← e];exact hgg
   rw[Below.heap_setCell _ ⟨g',f.len * 4 + 3,none⟩ _ g h1,Below.heap_setCell _ ⟨g',f.len * 4 + 2,none⟩ _ g h1,Below.heap_setCell _ ⟨g',f.len * 4 + 1,none⟩ _ g h1,Below.heap_setCell _ ⟨g',f.len * 4,none⟩ _ g h1])
  exact z0f (z3t R11 hgn L.length (.slice (some ⟨g',0,none⟩) (f.len + 1) cap')) (fun g _=>by rw[hF])
 ·refine⟨ho.trans (hg.os.trans hb9.os),htp.trans (hg.tape.trans hb9.tape),hout.trans (hg.output.trans hb9.output),hs,fun b h1 h2=>?_⟩
  by_cases hB:B≤b
  ·have q:K b:=Classical.byContradiction fun q=>h2 ⟨hB,q⟩
   exact hKn b q
  ·refine hb b h1 (fun e=>?_) (fun e=>?_)
   ·have:=(hof.own.lt b e).1;omega
   ·have:=hgl.1;omega
end
end Go.Proofs.YtagleefekmdldaaGreatDoor
namespace Go.Proofs.YtagleefekmdldaaGreatDoor
open Go.Proofs.Tryz Go.RowKit
theorem tr_put {w:World} {B P:Nat} {K:Nat→Prop} {L:List Mk.Fo} {f:Mk.Fo} {os:List (Mk.Bs × List Mk.At)} {vn vo:Value} {ns xo:List Value} (h:BldV w B P K (L++[f]) os vn vo ns xo) (n:List UInt8) (a:List Mk.At) (t:List UInt8) (k:Mk.Fo) (va:Value) (hva:AtsV w K va a) (ao:Option Addr) (cap:Nat) (zs:List Value) (hvk2:z1v w K ao zs) (hvk3:Y0 w K k zs) (hvk4:k.len≤maxLen)
  (hbk:f.bulk + (1 + n.length + t.length + Mk.Fo.atB a + k.bulk)≤1099511627776) (hL:L.length≤1048576) :
  Calls prog 89 #[.pointer (some ⟨P,0,none⟩),z0d n va t (.slice ao k.len cap)] w fun e w'=>e=.returned (.tuple #[])∧(∃ ns',BldV w' B P K (L++[Mk.Fo.snoc n a t k f]) os vn vo ns' xo)∧Ap (fun b=>B≤b∧¬ K b) w w':=by
 have hst:∀ l:List UInt8,(st l).toList=l:=fun l=>Lib.toList_data _
 obtain⟨aoa,capa,hva1,hva2⟩:=id hva;subst hva1;have H:=Ld h;have HVA:=Ld hva;have HVK:=Ld hvk2;have HVF:=Ld hvk3;obtain⟨gn,capn,v,xs,hvn,hcn,hns,hof,hfr⟩:=h.last;subst hvn;obtain⟨ao0,cap0,hu0⟩:=Y1 hof.own;subst hu0;have hal:=(Below.refl w.heap.size w).alloc (Lr) (.cells #[.string (st n),.slice aoa a.length capa,.string (st t),.slice ao k.len cap] 38);have PB:=Ld (Blk.new w 38 #[.string (st n),.slice aoa a.length capa,.string (st t),.slice ao k.len cap]);have H1:=Ld (h.below hal);have hvnb:(Value.slice (some ⟨gn,0,none⟩) (L.length + 1) capn).ownBlock=some gn:=rfl;have hgl:=(h.rn.lt gn hvnb).2;have hgP:=(h.dn gn hvnb).1;have hPl:=Blk.lt h.blk;have OF1:=Ld (hof.frame hal.size (fun b hb _=>hal.block b hb));have HAL:=Ld hal;have HNS:=Ld hns;have HNE0:Hid ((Value.slice ao0 f.len cap0).ownBlock ≠ some w.heap.size):=by
  intro e;have:=(hof.own.lt _ e).2;omega
 have e1:(w.alloc (.cells #[.string (st n),.slice aoa a.length capa,.string (st t),.slice ao k.len cap] 38)).cell? ⟨gn,L.length,none⟩=some (.slice ao0 f.len cap0):=(cell_of_block (hal.block gn hgl) _).trans hcn;have c0:(w.alloc (.cells #[.string (st n),.slice aoa a.length capa,.string (st t),.slice ao k.len cap] 38)).cell? ⟨P,0,none⟩=some (.slice (some ⟨gn,0,none⟩) (L.length + 1) capn):=Blk.cell H1.out.blk 0;have hbn:n=[]∨n.isEmpty=false:=by
  cases n with
  | nil=>exact .inl rfl
  | cons _ _=>exact .inr rfl
 have HBN:=Ld hbn;have hfl:=Mk.Fo.z0m f;have htl:=Mk.Fo.z6h f;unfold z0d;clear h hva hvk2 hvk3 hva2 hof hcn hal hns hfr hvnb hbn;go_enter func89,ntmps89;go_upto_region 1 with fail
 go_region
 all_goals
  generalize hw1:(w.alloc (.cells #[.string (st n),.slice aoa a.length capa,.string (st t),.slice ao k.len cap] 38))=w1 at PB H1 OF1 HAL e1 c0 ⊢;clear hw1;have p0:w1.cell? ⟨w.heap.size,0,none⟩=some (.string (st n)):=Blk.cell PB.out 0;go_upto_region 3 with fail
  go_cut [38] (fun b wx=>b=.bool (f.merges n)∧wx=w1.drew)
  case first =>
   rcases HBN.out with hn | hn
   ·by_cases hf0:f=.nil
    ·have HM:Hid (f.merges n=false):=by show _=_;rw[hf0,Mk.Fo.z4d]
     have hl0:¬ 0 < f.len:=by rw[hf0];simp[Mk.Fo.len]
     have HN:=Ld hn;have he:n.isEmpty=true:=by rw[hn];rfl
     clear hn hf0;go_wp2_with fail;go_meet
     case rel=>exact⟨by rw[HM.out],rfl⟩
    ·obtain⟨g0,capz,hz,d1,d2,df⟩:=OF1.out.last hf0
     injection hz with z1 z2 z3;subst z1;subst z3;have hl0:0 < f.len:=z16 f hf0;obtain⟨j,hj⟩:∃ j,j=f.len - 1:=⟨_,rfl⟩;rw[← hj] at d1;have hj1:(f.len:Int) - 1=j:=by omega
     have hj2:(j:Int) < f.len:=by omega
     have hj3:(0:Int)≤j:=by omega
     have he:n.isEmpty=true:=by rw[hn];rfl
     have hbl:f.z5m=[]∨f.z5m.isEmpty=false:=by
      cases f.z5m with
      | nil=>exact .inl rfl
      | cons _ _=>exact .inr rfl
     have HN:=Ld hn;have HF0:=Ld hf0;clear hj d2 df hn hf0
     rcases hbl with h1 | h1
     ·have HM:Hid (f.merges n=true):=(Mk.Fo.Y5 _ _).2 ⟨HN.out,HF0.out,h1⟩
      have he1:f.z5m.isEmpty=true:=by rw[h1];rfl
      clear h1;go_wp2_with fail;go_meet
      case rel=>exact⟨by rw[HM.out],rfl⟩
     ·have HM:Hid (f.merges n=false):=by
       show _=_;rw[Bool.eq_false_iff];intro q;rw[((Mk.Fo.Y5 _ _).1 q).2.2] at h1;cases h1
      go_wp2_with fail;go_meet
      case rel=>exact⟨by rw[HM.out],rfl⟩
   ·have HM:Hid (f.merges n=false):=by
     show _=_;rw[Bool.eq_false_iff];intro q;rw[((Mk.Fo.Y5 _ _).1 q).1] at hn;cases hn
    go_wp2_with fail;go_meet
    case rel=>exact⟨by rw[HM.out],rfl⟩
  case rest =>
   obtain⟨rfl,hw⟩:=hcut;subst hw;obtain⟨mb,hmb⟩:∃ mb,f.merges n=mb:=⟨_,rfl⟩;rw[hmb];have HMB:=Ld hmb;clear hmb
   cases mb with
   | true =>
    have hq:=(Mk.Fo.Y5 _ _).1 HMB.out;obtain⟨g0,capz,hz,d1,d2,df⟩:=OF1.out.last hq.2.1;injection hz with z1 z2 z3;subst z1;subst z3;have hl0:0 < f.len:=z16 f hq.2.1;have OFM:=Ld (OF1.out.merged a t k HMB.out (g:=g0) rfl);obtain⟨j,hj⟩:∃ j,j=f.len - 1:=⟨_,rfl⟩;rw[← hj] at d1 d2 OFM;have hj1:(f.len:Int) - 1=j:=by omega
    have hj2:(j:Int) < f.len:=by omega
    have hj3:(0:Int)≤j:=by omega
    have p2:w1.cell? ⟨w.heap.size,2,none⟩=some (.string (st t)):=Blk.cell PB.out 2;have df2:=df (j * 4 + 2);have q1:¬ 9223372036854775807 < (st f.lastT).size + (st t).size:=by rw[y9,y9];omega
    have hBg:=(OF1.out.own.lt g0 rfl).1;have hKg:=OF1.out.ne g0 rfl;clear hj hq df;go_upto_region 4 with fail
    go_region
    all_goals
     rw[show st f.lastT++st t=st (f.lastT++t) from z19 (st f.lastT) (st t)];go_wp2_with fail;refine bodyPost_ret (results_none rfl _ _ _) rfl ?_;have hov:∀ b,(Value.slice (some ⟨g0,0,none⟩) f.len cap0).ownBlock=some b→b=g0:=fun b e=>by injection e with e;exact e.symm
     refine⟨rfl,⟨_,H1.out.turn HNS.out (f':=Mk.Fo.snoc n a t k f) (xs:=xs.set (4 * j + 2) (.string (st (f.lastT++t)))) ?_ (by simp[World.setCell]) ?_⟩,?_⟩
     ·have q:=OFM.out.frame (w':=(w1.setCell ⟨g0,4 * j + 2,none⟩ (.string (st (f.lastT++t)))).drew.drew) (Lr) (fun _ _ _=>rfl)
      rw[Nat.mul_comm 4 j] at q;rw[Nat.mul_comm 4 j];exact q
     ·intro b _ hb
      exact Below.heap_setCell w1 ⟨g0,j * 4 + 2,none⟩ _ b (by rintro rfl;exact hb rfl)
     ·exact((((Ap.of_below HAL.out).setCell (p:=⟨g0,j * 4 + 2,none⟩) (show B≤g0∧¬ K g0 from ⟨hBg,hKg⟩) (.string (st (f.lastT++t)))).drew).drew)
   | false =>
    have p1:w1.cell? ⟨w.heap.size,1,none⟩=some (.slice aoa a.length capa):=Blk.cell PB.out 1;have p2:w1.cell? ⟨w.heap.size,2,none⟩=some (.string (st t)):=Blk.cell PB.out 2;have p3:w1.cell? ⟨w.heap.size,3,none⟩=some (.slice ao k.len cap):=Blk.cell PB.out 3;go_upto_region 5 with fail;obtain⟨i0,hi,hz0,hz1,hz2⟩:=info_parts Tryz.infoNode;have OW10:=Ld (X8 OF1.out.own (((Ap.refl (fun _=>False) w1).drew).alloc (.cells #[.string ⟨#[]⟩,.slice none 0 0,.string ⟨#[]⟩,.slice none 0 0] 38)) (fun _ _ q=>q));have hBs:B≤w1.heap.size:=H1.out.blt;have hlf:f.len≤1099511627776:=by omega
    have hlf1:(f.len:Int) < f.len + 1:=by omega
    have hxl:=OF1.out.cells.length;have hwl:w.heap.size < w1.heap.size:=Blk.lt PB.out;have hgl1:gn < w1.heap.size:=by omega
    have hne0:(Value.slice ao0 f.len cap0).ownBlock ≠ some w.heap.size:=HNE0.out;have HVL:=Ld hvk4;have HLF:=Ld hlf;clear hgP hPl hfl htl hbk hL hst hvk4 hgl hlf
    go_region_law (refine Y7 rfl (.tmp 54) (.tmp 57) 22 rfl B 38 i0 (.agg #[.string ⟨#[]⟩,.slice none 0 0,.string ⟨#[]⟩,.slice none 0 0]) 4 80 underlying22 hi hz0 hz1 hz2 rfl (by decide) (.slice ao0 f.len cap0) f.len xs (by simp[Act.eval,Act.put]) OW10.out ⟨w1.heap.size,0,none⟩ 1 1 [.string ⟨#[]⟩,.slice none 0 0,.string ⟨#[]⟩,.slice none 0 0] (by simp[Act.eval,Act.put]) rfl (Y9 w1.drew _ _) (by intro u hu;simp at hu;rcases hu with rfl | rfl | rfl | rfl <;> rfl) (by decide) (by have:=HLF.out;unfold maxLen;omega) (by have:=HLF.out;omega) (by simp;omega) ?_;intro v' w10 hown' hgrow hfresh;have hb9:=((((Below.refl _ w1).alloc (Lr) (.cells #[.string ⟨#[]⟩,.slice none 0 0,.string ⟨#[]⟩,.slice none 0 0] 38)).drew).drew);obtain⟨g',cap',hv',k0,k1,k2,k3,hfz,kn,fn,hgg,hwn⟩:=j0m H1.out HNS.out e1 hxl hb9 hown' hgrow hfresh;subst hv';have z0:=hfz (f.len * 4);have z1:=hfz (f.len * 4 + 1);have z2:=hfz (f.len * 4 + 2);have z3:=hfz (f.len * 4 + 3);have HD:=Ld (fun wF hF h1 h2 h3=>bld_done (wF:=wF) H1.out HNS.out OF1.out hb9 hown' hgrow hfresh hgg (HVA.out.frame fun b q=>⟨q,HAL.out.block b (H.out.kle b q).2⟩) (HVK.out.frame fun b q=>⟨q,HAL.out.block b (H.out.kle b q).2⟩) HVL.out (HVF.out.frame fun b q=>⟨q,HAL.out.block b (H.out.kle b q).2⟩) HMB.out (t:=t) (cap:=cap) hF h1 h2 h3);have hwb:=hwn w.heap.size hwl hne0;have m0:=(cell_of_block hwb 0).trans p0;have m1:=(cell_of_block hwb 1).trans p1;have m2:=(cell_of_block hwb 2).trans p2;have m3:=(cell_of_block hwb 3).trans p3;clear hfz hown' hgrow hfresh hb9 hwn hwb)
    all_goals
     clear k0 k1 k2 k3 kn fn m0 m1 m2 m3 p0 p1 p2 p3 z0 z1 z2 z3 OF1 e1 c0 hwl hgl1 hne0 hlf1 hBs OW10 hi hz0 hz1 hz2 hxl hgg HVL HLF HVA HVK HVF H H1 HMB HNS HNE0 PB HBN;go_wp2_with fail;go_end0;exact⟨rfl,and_fin (HD.out _ (by first | exact .inl (by with_reducible rfl) | exact .inr (by with_reducible rfl)) (by simp only [q3h]) (by simp only [z9h]) (by simp only [z6v])) (fun q=>(Ap.of_below HAL.out).trans q)⟩
end Go.Proofs.YtagleefekmdldaaGreatDoor
