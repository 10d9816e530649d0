/- Contracts of the program's node and nodes of a cleaner, Of and Tree: what stays of a tree. Condition: at most 33554432 nodes, attributes and letters. -/
import Derived.Test.YtjonkbdldebkiaaGreatDoorVMkFlat1
import Derived.Test.YtjonkbdldebkiaaGreatDoorVMkClean4
import Derived.Deep.RegionHeld3
set_option linter.unusedVariables false
set_option linter.unusedSimpArgs false
set_option maxHeartbeats 8000000
set_option maxRecDepth 100000
namespace Mk
def z0m (base n:Bs) (a:List At) (t:Bs) (k:Fo):Fo :=
 if n=[] then .node n a t k .nil
 else if q82 n then .nil
 else if !z1j n then Z5 base .nil k
 else if n=[105,109,103]∧z4m (Y4 base n a) [115,114,99]=false then .nil
 else .node n (Y4 base n a) [] (Z5 base .nil k) .nil
theorem z9m (base:Bs) (out:Fo) (n:Bs) (a:List At) (t:Bs) (k r:Fo):Z5 base out (.node n a t k r)=Z5 base (out.joins (z0m base n a t k)) r:=by
 rw[Z5]
 congr 1
 unfold z0m
 split
 ·rfl
 split
 ·rfl
 simp only
 split
 ·rfl
 split
 ·rfl
 ·rfl
theorem j0t (l m:List At):Fo.atB (l++m)=Fo.atB l + Fo.atB m:=by simp[Fo.atB]
theorem z8d (base e:Bs) (l:List At):Fo.atB (Y4 base e l)≤3001 * Fo.atB l:=by
 induction l with
 | nil=>exact Nat.zero_le _
 | cons a t ih =>
  have h:Fo.atB (z3p base e a)≤3001 * (1 + a.n.length + a.v.length):=by
   unfold z3p
   split
   ·exact Nat.zero_le _
   split
   ·split
    ·rename_i hg
     have:(light base a.v).length≤3000:=by
      unfold z1k at hg;rw[Bool.and_eq_true] at hg;exact of_decide_eq_true hg.2
     show 1 + a.n.length + (light base a.v).length + 0≤_;omega
    ·exact Nat.zero_le _
   ·show 1 + a.n.length + a.v.length + 0≤_
    omega
  show Fo.atB (z3p base e a++Y4 base e t)≤3001 * (1 + a.n.length + a.v.length + Fo.atB t);rw[j0t];omega
theorem z9l (base:Bs):∀ (f out:Fo),Fo.bulk (Z5 base out f)≤Fo.bulk out + 3001 * Fo.bulk f∧True:=by
 intro f
 induction f with
 | nil=>intro out;exact⟨by show Fo.bulk out≤Fo.bulk out + 3001 * 0;omega,trivial⟩
 | node n a t k r ihk ihr =>
  intro out;refine⟨?_,trivial⟩;rw[z9m];have h1:=(ihr (out.joins (z0m base n a t k))).1;have h2:=Fo.z9a (z0m base n a t k) out;have hk:=(ihk .nil).1;have ha:=z8d base n a;have hk0:Fo.bulk .nil=0:=rfl;have h3:Fo.bulk (z0m base n a t k)≤3001 * (1 + n.length + t.length + Fo.atB a + Fo.bulk k):=by
   unfold z0m
   split
   ·show 1 + n.length + t.length + Fo.atB a + Fo.bulk k + 0≤_
    omega
   split
   ·exact Nat.zero_le _
   split
   ·omega
   split
   ·exact Nat.zero_le _
   ·show 1 + n.length + 0 + Fo.atB (Y4 base n a) + Fo.bulk (Z5 base .nil k) + 0≤_
    omega
  show _≤Fo.bulk out + 3001 * (1 + n.length + t.length + Fo.atB a + Fo.bulk k + Fo.bulk r);omega
end Mk
namespace Go.Proofs.YtjonkbdldebkiaaGreatDoor
open Go.Proofs.Tryz Go.RowKit
def Kn (K:Nat→Prop) (w w':World) (b:Nat):Prop:=K b∨(w.heap.size≤b∧b < w'.heap.size)
def NodesC (base:List UInt8) (C:Nat) (f:Mk.Fo):Prop:=∀ (v:Value) (K:Nat→Prop) (w:World),FoV w K v f→(∀ b,K b→b < w.heap.size)→C < w.heap.size→w.cell? ⟨C,0,none⟩=some (.string (st base)) →
 Calls prog 160 #[.pointer (some ⟨C,0,none⟩),v] w fun e w'=>∃ v',e=.returned v'∧FoV w' (Kn K w w') v' (Mk.Z5 base .nil f)∧Below w.heap.size w w'
theorem FoV.one {w:World} {K:Nat→Prop} {n:List UInt8} {a:List Mk.At} {t:List UInt8} {k:Mk.Fo} {va:Value} {ao:Option Addr} {cap:Nat} {g:Nat} {T:TypeId} (hb:Blk w g T #[.string (st n),va,.string (st t),.slice ao k.len cap]) (hg:K g) (hva:AtsV w K va a) (hvk:FoV w K (.slice ao k.len cap) k) (c:Nat):FoV w K (.slice (some ⟨g,0,none⟩) 1 c) (.node n a t k .nil):=by
 obtain⟨ao',cap',xs,h1,h2,h3,h4⟩:=hvk;injection h1 with e1 e2 e3;subst e1;subst e3;refine⟨some ⟨g,0,none⟩,c,[.string (st n),va,.string (st t),.slice ao k.len cap],rfl,.inr ⟨g,0,rfl,hg,?_⟩,⟨va,ao,cap,xs,[],rfl,hva,h2,h4,h3,rfl⟩,by show 1≤maxLen;unfold maxLen;omega⟩;intro i v hi;rw[Nat.zero_add,Blk.cell hb i,← hi];simp
theorem Kn.le {K:Nat→Prop} {w w':World} (hK:∀ b,K b→b < w.heap.size) (hs:w.heap.size≤w'.heap.size):∀ b,Kn K w w' b→b < w'.heap.size:=by
 rintro b (h | h)
 ·exact Nat.lt_of_lt_of_le (hK b h) hs
 ·exact h.2
theorem Kn.up {K:Nat→Prop} {w w3 wF:World} (hK:∀ b,K b→b < w.heap.size) (hs:w.heap.size≤w3.heap.size) (hb:Below w3.heap.size w3 wF):∀ b,Kn K w w3 b→Kn K w wF b∧wF.heap[b]? = w3.heap[b]?:=by
 rintro b (h | h)
 ·exact⟨.inl h,hb.block b (Nat.lt_of_lt_of_le (hK b h) hs)⟩
 ·exact⟨.inr ⟨h.1,Nat.lt_of_lt_of_le h.2 hb.size⟩,hb.block b h.2⟩
theorem cl_node (base n t:List UInt8) (a:List Mk.At) (k:Mk.Fo) (hkids:∀ C,NodesC base C k) (hbk:n.length + Mk.Fo.atB a≤33554432) (C:Nat) (va vk:Value) (K:Nat→Prop) (w:World) (hva:AtsV w K va a) (hvk:FoV w K vk k) (hK:∀ b,K b→b < w.heap.size) (hC:C < w.heap.size) (hCc:w.cell? ⟨C,0,none⟩=some (.string (st base))) :
  Calls prog 210 #[.pointer (some ⟨C,0,none⟩),z05 n va t vk] w fun e w'=>∃ v',e=.returned v'∧FoV w' (Kn K w w') v' (Mk.z0m base n a t k)∧Below w.heap.size w w':=by
 have hst:∀ l:List UInt8,(st l).toList=l:=fun l=>Lib.toList_data _
 obtain⟨aoa,capa,hva1,hva2⟩:=id hva;obtain⟨aok,capk,xsk,hvk1,hvk2⟩:=id hvk;subst hva1;subst hvk1;have hal:=(Below.refl w.heap.size w).alloc (Lr) (.cells #[.string (st n),.slice aoa a.length capa,.string (st t),.slice aok k.len capk] 53);have NB:=Ld (Blk.new w 53 #[.string (st n),.slice aoa a.length capa,.string (st t),.slice aok k.len capk]);have AL:=Ld hal;have hne:Mk.z0m base n a t k=(if n=[] then .node n a t k .nil else if Mk.q82 n then .nil else if !Mk.z1j n then Mk.Z5 base .nil k else if n=[105,109,103]∧Mk.z4m (Mk.Y4 base n a) [115,114,99]=false then .nil else .node n (Mk.Y4 base n a) [] (Mk.Z5 base .nil k) .nil):=rfl;have HNE:=Ld hne;have HVA:=Ld hva;have HVK:=Ld hvk;clear hal hne hvk2 hva2 hva hvk;unfold z05
 by_cases hn:n=[]
 ·have he:n.isEmpty=true:=by rw[hn];rfl
  have HN:Hid (Mk.z0m base n a t k=.node n a t k .nil):=by show _=_;rw[HNE.out,if_pos hn]
  clear hn HNE;go_enter func210,ntmps210;go_wp2_with fail;go_ret;have hb2:=AL.out.alloc AL.out.size (.cells #[.string (st n),.slice aoa a.length capa,.string (st t),.slice aok k.len capk] 53);refine⟨_,rfl,?_,hb2⟩;rw[HN.out];have kp:∀ b,K b→Kn K w ((w.alloc (.cells #[.string (st n),.slice aoa a.length capa,.string (st t),.slice aok k.len capk] 53)).alloc (.cells #[.string (st n),.slice aoa a.length capa,.string (st t),.slice aok k.len capk] 53)) b∧((w.alloc (.cells #[.string (st n),.slice aoa a.length capa,.string (st t),.slice aok k.len capk] 53)).alloc (.cells #[.string (st n),.slice aoa a.length capa,.string (st t),.slice aok k.len capk] 53)).heap[b]? = w.heap[b]?:=fun b hb=>⟨.inl hb,hb2.block b (hK b hb)⟩
  have q:=FoV.one (Blk.new (w.alloc (.cells #[.string (st n),.slice aoa a.length capa,.string (st t),.slice aok k.len capk] 53)) 53 #[.string (st n),.slice aoa a.length capa,.string (st t),.slice aok k.len capk]) (K:=Kn K w ((w.alloc (.cells #[.string (st n),.slice aoa a.length capa,.string (st t),.slice aok k.len capk] 53)).alloc (.cells #[.string (st n),.slice aoa a.length capa,.string (st t),.slice aok k.len capk] 53))) (.inr ⟨by simp,by simp⟩) (HVA.out.frame kp) (HVK.out.frame kp) 1;rw[World.size_alloc] at q;exact q
 ·have he:n.isEmpty=false:=by
   cases n with
   | nil=>exact absurd rfl hn
   | cons _ _=>rfl
  have HNE2:Hid (Mk.z0m base n a t k=if Mk.q82 n then .nil else if !Mk.z1j n then Mk.Z5 base .nil k else if n=[105,109,103]∧Mk.z4m (Mk.Y4 base n a) [115,114,99]=false then .nil else .node n (Mk.Y4 base n a) [] (Mk.Z5 base .nil k) .nil):=by show _=_;rw[HNE.out,if_neg hn]
  clear HNE;have hgo:=fun W=>cl_gone n W
  have hlw:=fun W=>q2o n W
  obtain⟨bg,hbg⟩:∃ b,Mk.q82 n=b:=⟨_,rfl⟩;obtain⟨ba,hba⟩:∃ b,Mk.z1j n=b:=⟨_,rfl⟩;rw[hbg] at hgo HNE2;rw[hba] at hlw HNE2;have HGO:=Ld hgo;have HLW:=Ld hlw;clear hgo hlw hbg hba
  cases bg with
  | true =>
   have HN:Hid (Mk.z0m base n a t k=.nil):=by show _=_;rw[HNE2.out];rfl
   clear HNE2;go_enter func210,ntmps210;go_wp2_with fail;refine(HGO.out _).mono ?_;rintro e w1 ⟨rfl,hw1⟩;subst hw1;go_wp2_with fail;go_ret;exact⟨_,rfl,by rw[HN.out];exact⟨none,0,[],rfl,.inl rfl,rfl,Nat.zero_le _⟩,AL.out⟩
  | false =>
   have HNE3:Hid (Mk.z0m base n a t k=if !ba then Mk.Z5 base .nil k else if n=[105,109,103]∧Mk.z4m (Mk.Y4 base n a) [115,114,99]=false then .nil else .node n (Mk.Y4 base n a) [] (Mk.Z5 base .nil k) .nil):=by show _=_;rw[HNE2.out];rfl
   clear HNE2;have HKD:=Ld (hkids C (.slice aok k.len capk) K (w.alloc (.cells #[.string (st n),.slice aoa a.length capa,.string (st t),.slice aok k.len capk] 53)) (HVK.out.below hK AL.out) (fun b hb=>Nat.lt_of_lt_of_le (hK b hb) AL.out.size) (Nat.lt_of_lt_of_le hC AL.out.size) ((AL.out.cell (p:=⟨C,0,none⟩) hC).trans hCc));go_enter func210,ntmps210;go_wp2_with fail;refine(HGO.out _).mono ?_;rintro e w1 ⟨rfl,hw1⟩;subst hw1;generalize hw1:w.alloc (.cells #[.string (st n),.slice aoa a.length capa,.string (st t),.slice aok k.len capk] 53)=w1 at NB AL HKD ⊢;clear hw1;have q3:w1.cell? ⟨w.heap.size,3,none⟩=some (.slice aok k.len capk):=Blk.cell NB.out 3;clear HGO;go_wp2_with fail;refine HKD.out.mono ?_;rintro e w2 ⟨vk2,rfl,hfk,hb2⟩;have L2:=Ld (AL.out.trans (hb2.mono AL.out.size));have hs12:=hb2.size;have NB2:=Ld (Blk.below NB.out hb2 (Blk.lt NB.out));have FK2:=Ld hfk;have p0:w2.cell? ⟨w.heap.size,0,none⟩=some (.string (st n)):=Blk.cell NB2.out 0;clear HKD hb2 hfk q3;go_wp2_with fail;refine(HLW.out _).mono ?_;rintro e w3 ⟨rfl,hb3⟩;have L3:=Ld (L2.out.trans (hb3.mono L2.out.size));have NB3:=Ld (Blk.below NB2.out hb3 (Blk.lt NB2.out));have FK3:Hid (FoV w3 (Kn K w w3) vk2 (Mk.Z5 base .nil k)):=by
    have hA:=AL.out.size;refine FK2.out.frame (fun b hb=>?_)
    rcases hb with h | h
    ·exact⟨.inl h,hb3.block b (Nat.lt_of_lt_of_le (hK b h) (Nat.le_trans hA hs12))⟩
    ·exact⟨.inr ⟨Nat.le_trans hA h.1,Nat.lt_of_lt_of_le h.2 hb3.size⟩,hb3.block b h.2⟩
   clear HLW hb3 FK2 p0 NB2 L2
   cases ba with
   | false =>
    have HN:Hid (Mk.z0m base n a t k=Mk.Z5 base .nil k):=by show _=_;rw[HNE3.out];rfl
    clear HNE3;go_wp2_with fail;go_ret;exact⟨_,rfl,by rw[HN.out];exact FK3.out,L3.out⟩
   | true =>
    have HNE4:Hid (Mk.z0m base n a t k=if n=[105,109,103]∧Mk.z4m (Mk.Y4 base n a) [115,114,99]=false then .nil else .node n (Mk.Y4 base n a) [] (Mk.Z5 base .nil k) .nil):=by show _=_;rw[HNE3.out];rfl
    clear HNE3;go_upto_region 8 with fail;obtain⟨ao2,cap2,xs2,hv2,_⟩:=id FK3.out;subst hv2;have hwz:w.heap.size < w3.heap.size:=Blk.lt NB3.out;have hs03:=L3.out.size;have hfr:∀ W,Below w3.heap.size w3 W→W.cell? ⟨w.heap.size,0,none⟩=some (.string (st n))∧W.cell? ⟨w.heap.size,1,none⟩=some (.slice aoa a.length capa)∧W.cell? ⟨w.heap.size,2,none⟩=some (.string (st t))∧W.cell? ⟨w.heap.size,3,none⟩=some (.slice aok k.len capk):=fun W hW=>⟨(hW.cell (p:=⟨w.heap.size,0,none⟩) hwz).trans (Blk.cell NB3.out 0),(hW.cell (p:=⟨w.heap.size,1,none⟩) hwz).trans (Blk.cell NB3.out 1),(hW.cell (p:=⟨w.heap.size,2,none⟩) hwz).trans (Blk.cell NB3.out 2),(hW.cell (p:=⟨w.heap.size,3,none⟩) hwz).trans (Blk.cell NB3.out 3)⟩
    have HFR:=Ld hfr;have hac:∀ W,Below w3.heap.size w3 W→Calls prog 250 #[.pointer (some ⟨C,0,none⟩),.agg #[.string (st n),.slice aoa a.length capa,.string (st t),.slice aok k.len capk]] W fun e w'=>∃ v,e=.returned v∧w'.ownsRow W.heap.size 56 2 v (Mk.Y4 base n a).length (Y8 (Mk.Y4 base n a))∧Below W.heap.size W w':=fun W hW=>by
     have h0:=L3.out.trans (hW.mono hs03);exact cl_attrs base n t a (.slice aoa a.length capa) (.slice aok k.len capk) k.len capk aok rfl C K W (Nat.lt_of_lt_of_le hC h0.size) ((h0.cell (p:=⟨C,0,none⟩) hC).trans hCc) (HVA.out.below hK h0) (fun b hb=>Nat.lt_of_lt_of_le (hK b hb) h0.size) (by omega)
    have HAC:=Ld hac;generalize hla:Mk.Y4 base n a=la at HNE4 HAC;have HLL:=Ld (show la.length≤33554432 from by have h1:=q0r base n a;have h2:=Mk.z5f a;rw[hla] at h1;omega);clear hfr hac hla
    go_cut [6] (fun p wx=>∃ P ao7 cap7,p=.pointer (some ⟨P,0,none⟩)∧Hid (Below w.heap.size w wx)∧Hid (Blk wx P 53 #[.string (st n),.slice ao7 la.length cap7,.string ⟨#[]⟩,.slice ao2 (Mk.Z5 base .nil k).len cap2])∧Hid (AtsV wx (Kn K w wx) (.slice ao7 la.length cap7) la)∧Hid (FoV wx (Kn K w wx) (.slice ao2 (Mk.Z5 base .nil k).len cap2) (Mk.Z5 base .nil k)))
    case first =>
     go_region_held3 (fun w'=>w'.cell? ⟨w.heap.size,0,none⟩=some (.string (st n))∧w'.cell? ⟨w.heap.size,1,none⟩=some (.slice aoa a.length capa)∧w'.cell? ⟨w.heap.size,2,none⟩=some (.string (st t))∧w'.cell? ⟨w.heap.size,3,none⟩=some (.slice aok k.len capk)) (first
      | exact HFR.out _ hB7
      | exact HFR.out _ (hB7.alloc hB7.size _)
      | exact HFR.out _ ((Below.refl _ _).drew)
      | exact HFR.out _ (((Below.refl _ _).drew).alloc (Lr) _)
      | exact HFR.out _ ((((hB7.setCell (p:=⟨w3.heap.size,0,none⟩) (Lr) _).setCell (p:=⟨w3.heap.size,1,none⟩) (Lr) _).setCell (p:=⟨w3.heap.size,2,none⟩) (Lr) _).setCell (p:=⟨w3.heap.size,3,none⟩) (Lr) _)) (first | (go_at_call 250;refine(HAC.out _ ?_).mono ?_;(first | exact(Below.refl _ _).drew | exact((Below.refl _ _).drew).alloc (Lr) _);rintro e w7 ⟨v7,rfl,ow7,hb7⟩;obtain⟨ao7,cap7,rfl⟩:=Z9 ow7;have hB7:Below w3.heap.size w3 w7:=(by first | exact((Below.refl _ _).drew).trans (hb7.mono (Lr)) | exact(((Below.refl _ _).drew).alloc (Lr) _).trans (hb7.mono (by simp)));(try (have z0:w7.cell? ⟨w3.heap.size,0,none⟩=some (.string ⟨#[]⟩):=(hb7.cell (p:=⟨w3.heap.size,0,none⟩) (by simp)).trans (Blk.cell (Blk.new w3.drew 53 #[.string ⟨#[]⟩,.slice none 0 0,.string ⟨#[]⟩,.slice none 0 0]) 0)));(try (have z1:w7.cell? ⟨w3.heap.size,1,none⟩=some (.slice none 0 0):=(hb7.cell (p:=⟨w3.heap.size,1,none⟩) (by simp)).trans (Blk.cell (Blk.new w3.drew 53 #[.string ⟨#[]⟩,.slice none 0 0,.string ⟨#[]⟩,.slice none 0 0]) 1)));(try (have z2:w7.cell? ⟨w3.heap.size,2,none⟩=some (.string ⟨#[]⟩):=(hb7.cell (p:=⟨w3.heap.size,2,none⟩) (by simp)).trans (Blk.cell (Blk.new w3.drew 53 #[.string ⟨#[]⟩,.slice none 0 0,.string ⟨#[]⟩,.slice none 0 0]) 2)));(try (have z3:w7.cell? ⟨w3.heap.size,3,none⟩=some (.slice none 0 0):=(hb7.cell (p:=⟨w3.heap.size,3,none⟩) (by simp)).trans (Blk.cell (Blk.new w3.drew 53 #[.string ⟨#[]⟩,.slice none 0 0,.string ⟨#[]⟩,.slice none 0 0]) 3)));(try (have g0:w7.frozen? ⟨w3.heap.size,0,none⟩=false:=(hb7.frozen (p:=⟨w3.heap.size,0,none⟩) (by simp)).trans (Blk.frozen (Blk.new w3.drew 53 #[.string ⟨#[]⟩,.slice none 0 0,.string ⟨#[]⟩,.slice none 0 0]) 0)));(try (have g1:w7.frozen? ⟨w3.heap.size,1,none⟩=false:=(hb7.frozen (p:=⟨w3.heap.size,1,none⟩) (by simp)).trans (Blk.frozen (Blk.new w3.drew 53 #[.string ⟨#[]⟩,.slice none 0 0,.string ⟨#[]⟩,.slice none 0 0]) 1)));(try (have g2:w7.frozen? ⟨w3.heap.size,2,none⟩=false:=(hb7.frozen (p:=⟨w3.heap.size,2,none⟩) (by simp)).trans (Blk.frozen (Blk.new w3.drew 53 #[.string ⟨#[]⟩,.slice none 0 0,.string ⟨#[]⟩,.slice none 0 0]) 2)));(try (have g3:w7.frozen? ⟨w3.heap.size,3,none⟩=false:=(hb7.frozen (p:=⟨w3.heap.size,3,none⟩) (by simp)).trans (Blk.frozen (Blk.new w3.drew 53 #[.string ⟨#[]⟩,.slice none 0 0,.string ⟨#[]⟩,.slice none 0 0]) 3)))))
     ·have hBF:=hB7.alloc hB7.size (.cells #[.string (st n),.slice ao7 la.length cap7,.string ⟨#[]⟩,.slice ao2 (Mk.Z5 base .nil k).len cap2] 53)
      have LF:=L3.out.trans (hBF.mono hs03);have hs7:=hB7.size;have at7:AtsV w7 (fun g=>w3.heap.size≤g∧g < w7.heap.size) (.slice ao7 la.length cap7) la:=AtsV.of_own ow7 (fun g hg=>⟨(ow7.lt g hg).1,(ow7.lt g hg).2⟩);have atF:AtsV (w7.alloc (.cells #[.string (st n),.slice ao7 la.length cap7,.string ⟨#[]⟩,.slice ao2 (Mk.Z5 base .nil k).len cap2] 53)) (Kn K w (w7.alloc (.cells #[.string (st n),.slice ao7 la.length cap7,.string ⟨#[]⟩,.slice ao2 (Mk.Z5 base .nil k).len cap2] 53))) (.slice ao7 la.length cap7) la:=at7.frame (fun g hg=>⟨.inr ⟨Nat.le_trans hs03 hg.1,by have:=hg.2;simp;omega⟩,Below.heap_alloc w7 _ g hg.2⟩);have foF:=FK3.out.frame (Kn.up hK hs03 hBF);have HREL:=Ld (And.intro LF (And.intro (Blk.new w7 53 #[.string (st n),.slice ao7 la.length cap7,.string ⟨#[]⟩,.slice ao2 (Mk.Z5 base .nil k).len cap2]) (And.intro atF foF)));clear hBF LF at7 atF foF HFR HAC;go_wp2_with fail;go_meet
      case rel=>exact⟨w7.heap.size,ao7,cap7,rfl,HREL.out.1,HREL.out.2.1,HREL.out.2.2.1,HREL.out.2.2.2⟩
     ·have hBF:=((((hB7.setCell (p:=⟨w3.heap.size,0,none⟩) (Lr) (.string (st n))).setCell (p:=⟨w3.heap.size,1,none⟩) (Lr) (.slice ao7 la.length cap7)).setCell (p:=⟨w3.heap.size,2,none⟩) (Lr) (.string ⟨#[]⟩)).setCell (p:=⟨w3.heap.size,3,none⟩) (Lr) (.slice ao2 (Mk.Z5 base .nil k).len cap2))
      have LF:=L3.out.trans (hBF.mono hs03);have hs7:=hB7.size;have b7:Blk w7 w3.heap.size 53 #[.string ⟨#[]⟩,.slice none 0 0,.string ⟨#[]⟩,.slice none 0 0]:=(hb7.block w3.heap.size (by simp)).trans (Blk.new w3 _ _);have at7:AtsV w7 (fun g=>w3.heap.size < g∧g < w7.heap.size) (.slice ao7 la.length cap7) la:=AtsV.of_own ow7 (fun g hg=>⟨by have:=(ow7.lt g hg).1;simp at this;omega,(ow7.lt g hg).2⟩);have atF:AtsV ((((w7.setCell ⟨w3.heap.size,0,none⟩ (.string (st n))).setCell ⟨w3.heap.size,1,none⟩ (.slice ao7 la.length cap7)).setCell ⟨w3.heap.size,2,none⟩ (.string ⟨#[]⟩)).setCell ⟨w3.heap.size,3,none⟩ (.slice ao2 (Mk.Z5 base .nil k).len cap2)) (Kn K w ((((w7.setCell ⟨w3.heap.size,0,none⟩ (.string (st n))).setCell ⟨w3.heap.size,1,none⟩ (.slice ao7 la.length cap7)).setCell ⟨w3.heap.size,2,none⟩ (.string ⟨#[]⟩)).setCell ⟨w3.heap.size,3,none⟩ (.slice ao2 (Mk.Z5 base .nil k).len cap2))) (.slice ao7 la.length cap7) la:=at7.frame (fun g hg=>⟨.inr ⟨by have:=hg.1;omega,by have:=hg.2;simpa [World.setCell] using this⟩,by
       have hne:g ≠ w3.heap.size:=by have:=hg.1;omega
       rw[Below.heap_setCell _ ⟨w3.heap.size,3,none⟩ _ g hne,Below.heap_setCell _ ⟨w3.heap.size,2,none⟩ _ g hne,Below.heap_setCell _ ⟨w3.heap.size,1,none⟩ _ g hne,Below.heap_setCell _ ⟨w3.heap.size,0,none⟩ _ g hne]⟩)
      have foF:=FK3.out.frame (Kn.up hK hs03 hBF);have HREL:=Ld (And.intro LF (And.intro (Blk.set_ (Blk.set_ (Blk.set_ (Blk.set_ b7 0 (.string (st n))) 1 (.slice ao7 la.length cap7)) 2 (.string ⟨#[]⟩)) 3 (.slice ao2 (Mk.Z5 base .nil k).len cap2)) (And.intro atF foF)));clear hBF LF at7 atF foF HFR HAC b7;go_wp2_with fail;go_meet
      case rel=>exact⟨w3.heap.size,ao7,cap7,rfl,HREL.out.1,HREL.out.2.1,HREL.out.2.2.1,HREL.out.2.2.2⟩
    case rest =>
     obtain⟨P,ao7,cap7,rfl,LX,PB,ATX,FOX⟩:=hcut;have c0:wc.cell? ⟨P,0,none⟩=some (.string (st n)):=Blk.cell PB.out 0;have c1:wc.cell? ⟨P,1,none⟩=some (.slice ao7 la.length cap7):=Blk.cell PB.out 1;have c2:wc.cell? ⟨P,2,none⟩=some (.string ⟨#[]⟩):=Blk.cell PB.out 2;have c3:wc.cell? ⟨P,3,none⟩=some (.slice ao2 (Mk.Z5 base .nil k).len cap2):=Blk.cell PB.out 3;clear HFR HAC FK3 NB3 L3;have hKX:=Kn.le hK LX.out.size
     by_cases him:n=[105,109,103]
     ·have hib:(n == [105,109,103])=true:=beq_iff_eq.2 him
      have hha:=cl_has la [115,114,99] (.slice ao7 la.length cap7) (Kn K w wc) wc ATX.out hKX HLL.out;obtain⟨hh,hhe⟩:∃ b,Mk.z4m la [115,114,99]=b:=⟨_,rfl⟩;rw[hhe] at hha;have HHA:=Ld hha;have HNE5:Hid (Mk.z0m base n a t k=if hh=false then .nil else .node n la [] (Mk.Z5 base .nil k) .nil):=by
       show _=_;rw[HNE4.out,hhe]
       cases hh <;> simp[him]
      clear HNE4 hha hhe him
      cases hh with
      | false =>
       have HN:Hid (Mk.z0m base n a t k=.nil):=by show _=_;rw[HNE5.out];rfl
       clear HNE5;go_wp2_with fail;refine HHA.out.mono ?_;rintro e w5 ⟨rfl,hb5⟩;have L5:=Ld (LX.out.trans (hb5.mono LX.out.size));clear hb5 HHA;go_wp2_with fail;go_ret;exact⟨_,rfl,by rw[HN.out];exact⟨none,0,[],rfl,.inl rfl,rfl,Nat.zero_le _⟩,L5.out⟩
      | true =>
       have HN:Hid (Mk.z0m base n a t k=.node n la [] (Mk.Z5 base .nil k) .nil):=by show _=_;rw[HNE5.out];rfl
       clear HNE5;go_wp2_with fail;refine HHA.out.mono ?_;rintro e w5 ⟨rfl,hb5⟩;have L5:=Ld (LX.out.trans (hb5.mono LX.out.size));have up5:=Kn.up hK LX.out.size hb5;have AT5:=Ld (ATX.out.frame up5);have FO5:=Ld (FOX.out.frame up5);have PB5:=Ld (Blk.below PB.out hb5 (Blk.lt PB.out));clear hb5 HHA c0 c1 c2 c3 up5;have d0:w5.cell? ⟨P,0,none⟩=some (.string (st n)):=Blk.cell PB5.out 0;have d1:w5.cell? ⟨P,1,none⟩=some (.slice ao7 la.length cap7):=Blk.cell PB5.out 1;have d2:w5.cell? ⟨P,2,none⟩=some (.string ⟨#[]⟩):=Blk.cell PB5.out 2;have d3:w5.cell? ⟨P,3,none⟩=some (.slice ao2 (Mk.Z5 base .nil k).len cap2):=Blk.cell PB5.out 3;go_wp2_with fail;go_ret;have hb6:=(Below.refl _ w5).alloc (Lr) (.cells #[.string (st n),.slice ao7 la.length cap7,.string (st []),.slice ao2 (Mk.Z5 base .nil k).len cap2] 53);have up6:=Kn.up hK L5.out.size hb6;refine⟨_,rfl,?_,L5.out.trans (hb6.mono L5.out.size)⟩;rw[HN.out];exact FoV.one (t:=[]) (Blk.new w5 _ _) (.inr ⟨L5.out.size,by simp⟩) (AT5.out.frame up6) (FO5.out.frame up6) _
     ·have hib:(n == [105,109,103])=false:=beq_eq_false_iff_ne.2 him
      have HN:Hid (Mk.z0m base n a t k=.node n la [] (Mk.Z5 base .nil k) .nil):=by
       show _=_;rw[HNE4.out,if_neg (fun q=>him q.1)]
      clear HNE4;have L5:=LX;have AT5:=ATX;have FO5:=FOX;have PB5:=PB;have d0:wc.cell? ⟨P,0,none⟩=some (.string (st n)):=Blk.cell PB5.out 0;have d1:wc.cell? ⟨P,1,none⟩=some (.slice ao7 la.length cap7):=Blk.cell PB5.out 1;have d2:wc.cell? ⟨P,2,none⟩=some (.string ⟨#[]⟩):=Blk.cell PB5.out 2;have d3:wc.cell? ⟨P,3,none⟩=some (.slice ao2 (Mk.Z5 base .nil k).len cap2):=Blk.cell PB5.out 3;go_wp2_with fail;go_ret;have hb6:=(Below.refl _ wc).alloc (Lr) (.cells #[.string (st n),.slice ao7 la.length cap7,.string (st []),.slice ao2 (Mk.Z5 base .nil k).len cap2] 53);have up6:=Kn.up hK L5.out.size hb6;refine⟨_,rfl,?_,L5.out.trans (hb6.mono L5.out.size)⟩;rw[HN.out];exact FoV.one (t:=[]) (Blk.new wc _ _) (.inr ⟨L5.out.size,by simp⟩) (AT5.out.frame up6) (FO5.out.frame up6) _
end Go.Proofs.YtjonkbdldebkiaaGreatDoor
namespace Mk
theorem q6h (base n:Bs) (a:List At) (t:Bs) (k:Fo):Fo.bulk (z0m base n a t k)≤3001 * (1 + n.length + t.length + Fo.atB a + Fo.bulk k):=by
 have hk:=(z9l base k .nil).1;have ha:=z8d base n a;have hk0:Fo.bulk .nil=0:=rfl;unfold z0m
 split
 ·show 1 + n.length + t.length + Fo.atB a + Fo.bulk k + 0≤_
  omega
 split
 ·exact Nat.zero_le _
 split
 ·omega
 split
 ·exact Nat.zero_le _
 ·show 1 + n.length + 0 + Fo.atB (Y4 base n a) + Fo.bulk (Z5 base .nil k) + 0≤_
  omega
end Mk
namespace Go.Proofs.YtjonkbdldebkiaaGreatDoor
open Go.Proofs.Tryz Go.RowKit
theorem cl_nodes (base:List UInt8) (N:Nat):∀ (f:Mk.Fo),f.bulk < N→f.bulk≤33554432→∀ C,NodesC base C f:=by
 induction N with
 | zero=>intro f hN;omega
 | succ N ih =>
  intro f hN hf C v K w hv hK hC hCc;obtain⟨gm,o,cap,hv1,hlen,hat⟩:=hv.at_
  have HAT:=Ld hat
  clear hat
  have hgl:=Mk.Fo.z1r f
  rcases hv1 with ⟨hv1,hKg⟩ | ⟨ao,hv1,hnil⟩
  ·subst hv1
   have hgm:=hK gm hKg;go_enter func160,ntmps160;go_wp2_with fail
   go_loopw [5,10] (fun u i wr=>∃ (k:Nat) (f':Mk.Fo) (xs':List Value) (Kr:Nat→Prop),k≤f.len∧i=.int .i64 k∧Hid (Mk.Z5 base .nil f=Mk.Z5 base f' (f.drop k))∧f'.bulk + 3001 * (f.drop k).bulk≤3001 * f.bulk∧Hid (∀ b,Kr b→K b∨w.heap.size≤b)∧Hid (OwnF wr w.heap.size Kr u f' xs')∧Hid (Below w.heap.size w wr)) (fun _ i _=>f.len - (intOf i).toNat)
   case atStart=>exact⟨0,.nil,[],(fun _=>False),Nat.zero_le _,rfl,by show _=_;rw[Mk.Fo.drop_zero],by rw[Mk.Fo.drop_zero];show 0 + _≤_;omega,fun _ h=>h.elim,⟨World.ownsRow_nil _ _ _ _,rfl,fun _ _ h=>h,fun _ h=>h.elim⟩,Below.refl _ _⟩
   case round =>
    obtain⟨k,f',xs',Kr,hk,rfl,HJ,hbk,HKR,OF,BL⟩:=hrel;have hsz:=BL.out.size
    by_cases hlt:k < f.len
    ·obtain⟨n,a,t,kk,r,hd,hd1⟩:=Mk.Fo.z6j f k hlt
     obtain⟨va,vk,c0,c1,c2,c3,hva,hvk⟩:=HAT.out k n a t kk r hd;rw[← BL.out.cell (p:=⟨gm,_,none⟩) hgm] at c0 c1 c2 c3;obtain⟨aoa,capa,hva1,_⟩:=id hva;obtain⟨aok,capk,xsk,hvk1,_⟩:=id hvk;subst hva1;subst hvk1;have hdb:(f.drop k).bulk=1 + n.length + t.length + Mk.Fo.atB a + kk.bulk + r.bulk:=by rw[hd];rfl
     have hdb2:=Mk.Fo.z1z f k;have HJ2:Hid (Mk.Z5 base .nil f=Mk.Z5 base (f'.joins (Mk.z0m base n a t kk)) (f.drop (k + 1))):=by show _=_;rw[HJ.out,hd,hd1,Mk.z9m]
     have hno:=Mk.q6h base n a t kk;have hjb:=Mk.Fo.z9a (Mk.z0m base n a t kk) f';have hbk2:(f'.joins (Mk.z0m base n a t kk)).bulk + 3001 * (f.drop (k + 1)).bulk≤3001 * f.bulk:=by rw[hd1];omega
     have hal:=(Below.refl wr.heap.size wr).alloc (Lr) (.cells #[.string (st n),.slice aoa a.length capa,.string (st t),.slice aok kk.len capk] 53);have BL1:=Ld (BL.out.trans (hal.mono hsz));have OF1:=Ld (OF.out.frame hal.size (fun b hb _=>hal.block b hb));have hnd:=cl_node base n t a kk (ih kk (by omega) (by omega)) (by omega) C (.slice aoa a.length capa) (.slice aok kk.len capk) K (wr.alloc (.cells #[.string (st n),.slice aoa a.length capa,.string (st t),.slice aok kk.len capk] 53)) (hva.below hK BL1.out) (hvk.below hK BL1.out) (fun b hb=>Nat.lt_of_lt_of_le (hK b hb) BL1.out.size) (Nat.lt_of_lt_of_le hC BL1.out.size) ((BL1.out.cell (p:=⟨C,0,none⟩) hC).trans hCc);unfold z05 at hnd;generalize Mk.z0m base n a t kk=no at hnd HJ2 hbk2 hno hjb;have HND:=Ld hnd;clear HAT hal hnd HJ hd hd1 hva hvk OF;go_wp2_with fail;refine HND.out.mono ?_;rintro e w2 ⟨vm,rfl,hfm,hb2⟩;generalize wr.alloc (.cells #[.string (st n),.slice aoa a.length capa,.string (st t),.slice aok kk.len capk] 53)=w1 at BL1 OF1 hb2 hfm;have BL2:=Ld (BL1.out.trans (hb2.mono BL1.out.size));have OF2:Hid (OwnF w2 w.heap.size (fun b=>Kr b∨Kn K w1 w2 b) u5 f' xs'):=by
      have h:=OF1.out.frame hb2.size (fun b hb _=>hb2.block b hb);refine⟨h.own,h.cells.frame (fun b hb=>⟨.inl hb,rfl⟩),?_,?_⟩
      ·intro g hg
       rintro (q | q | q)
       ·exact h.ne g hg q
       ·have:=hK g q;have:=(h.own.lt g hg).1;omega
       ·have:=(OF1.out.own.lt g hg).2;omega
      ·rintro b (q | q)
       ·exact h.le b q
       ·exact Kn.le (fun b hb=>Nat.lt_of_lt_of_le (hK b hb) BL1.out.size) hb2.size b q
     have FM2:Hid (FoV w2 (fun b=>Kr b∨Kn K w1 w2 b) vm no):=hfm.frame (fun b hb=>⟨.inr hb,rfl⟩);have HK2:Hid (∀ b,(Kr b∨Kn K w1 w2 b)→K b∨w.heap.size≤b):=by
      rintro b (q | q | q)
      ·exact HKR.out b q
      ·exact .inl q
      ·exact .inr (Nat.le_trans BL1.out.size q.1)
     have HPU:=Ld (cl_put f' no u5 vm w.heap.size (fun b=>Kr b∨Kn K w1 w2 b) xs' w2 OF2.out FM2.out BL2.out.size (by omega));clear HND hfm hb2 OF1 BL1 c0 c1 c2 c3;go_wp2_with fail;refine HPU.out.mono ?_;rintro e w3 ⟨v3,xs3,rfl,hof3,hap3,_⟩;have BL3:=Ld (BL2.out.trans (hap3.below BL2.out.size (fun b hb e=>by have:=(OF2.out.own.lt b e).1;omega)));have OF3:=Ld hof3;clear HPU hof3 hap3 OF2 FM2;go_wp2_with fail;go_roundw
     case rel=>exact⟨k + 1,_,xs3,_,by omega,by go_num,HJ2,hbk2,HK2,OF3,BL3⟩
     case measure=>simp[intOf];omega
    ·have hke:k=f.len:=by omega
     rw[hke,Mk.Fo.z4e] at HJ;have HJ2:Hid (Mk.Z5 base .nil f=f'):=HJ;clear HJ HAT;go_wp2_with fail;go_ret;refine⟨_,rfl,?_,BL.out⟩;rw[HJ2.out];refine OF.out.foV (fun b hb=>?_) (fun g hg=>.inr (OF.out.own.lt g hg))
     rcases HKR.out b hb with q | q
     ·exact .inl q
     ·exact .inr ⟨q,OF.out.le b hb⟩
  ·subst hnil
   subst hv1;clear HAT;go_enter func160,ntmps160;go_wp2_with fail
   go_loopw [5,10] (fun u i wr=>u=.slice none 0 0∧i=.int .i64 0∧wr=w) (fun _ _ _=>0)
   case atStart=>exact⟨rfl,rfl,rfl⟩
   case round =>
    obtain⟨rfl,rfl,rfl⟩:=hrel;go_wp2_with fail;go_ret;exact⟨_,rfl,⟨none,0,[],rfl,.inl rfl,rfl,Nat.zero_le _⟩,Below.refl _ _⟩

theorem cl_Of (base:List UInt8) (f:Mk.Fo) (v:Value) (K:Nat→Prop) (w:World) (hf:f.bulk≤33554432) (hv:FoV w K v f) (hK:∀ b,K b→b < w.heap.size) :
  Calls prog 96 #[.string (st base),v] w fun e w'=>∃ v',e=.returned v'∧FoV w' (Kn K w w') v' (Mk.clean base f)∧Below w.heap.size w w':=by
 have hal:=(Below.refl w.heap.size w).alloc (Lr) (.cells #[.string (st base)] 211);have HN:=Ld (cl_nodes base (f.bulk + 1) f (Nat.lt_succ_self _) hf w.heap.size v K (w.alloc (.cells #[.string (st base)] 211)) (hv.below hK hal) (fun b hb=>Nat.lt_of_lt_of_le (hK b hb) hal.size) (Blk.lt (Blk.new w _ _)) (Blk.cell (Blk.new w _ _) 0));have AL:=Ld hal;clear hal hv;go_enter func96,ntmps96;go_wp2_with fail;refine HN.out.mono ?_;rintro e w1 ⟨v1,rfl,hf1,hb⟩;have L:=Ld (AL.out.trans (hb.mono AL.out.size));have F1:Hid (FoV w1 (Kn K w w1) v1 (Mk.clean base f)):=hf1.frame (fun b hb'=>⟨hb'.imp id (fun q=>⟨Nat.le_trans AL.out.size q.1,q.2⟩),rfl⟩);clear hb hf1 HN;go_wp2_with fail;go_ret;exact⟨_,rfl,F1.out,L.out⟩
end Go.Proofs.YtjonkbdldebkiaaGreatDoor
