/- Contracts of the reference's SameEntries and EntryAt. Condition: at most 33554432 entries. -/
import Derived.Test.YtjonkbdldebkiaaGreatDoorYWeA
import Derived.Test.YtjonkbdldebkiaaGreatDoorYMkSame
import Derived.Test.YtjonkbdldebkiaaGreatDoorYUrlPlain
set_option linter.unusedVariables false
set_option linter.unusedSimpArgs false
set_option maxHeartbeats 2000000
set_option maxRecDepth 100000
namespace Go.Proofs.YtjonkbdldebkiaaGreatDoor
open Go.Proofs.Tryz Go.RowKit
theorem z18.get {w:World} {K:Nat→Prop} {v:Value} {l:List Fd.En} (h:z18 w K v l):∃ ao cap,v=.slice ao l.length cap∧l.length≤maxLen∧∀ k (hk:k < l.length),∃ g o,ao=some ⟨g,o,none⟩∧K g∧w.cell? ⟨g,o + k * 5,none⟩=some (.string (st l[k].id))∧w.cell? ⟨g,o + k * 5 + 1,none⟩=some (.string (st l[k].ti))∧w.cell? ⟨g,o + k * 5 + 2,none⟩=some (.string (st l[k].li))∧w.cell? ⟨g,o + k * 5 + 3,none⟩=some (.int .i64 l[k].at_)∧w.cell? ⟨g,o + k * 5 + 4,none⟩=some (.string (st l[k].ht)):=by
 have hm:=h;obtain⟨g,o,cap,hK,hv,hc⟩:=h.at_
 obtain⟨ao',cap',h1,_,_,h4⟩:=hm;refine⟨ao',cap',h1,h4,fun k hk=>?_⟩
 rcases hv with hv | ⟨ao2,hv,h0⟩
 ·rw[h1] at hv
  injection hv with e1 _ _;exact⟨g,o,e1,hK (by intro e;subst e;simp at hk),hc k hk⟩
 ·subst h0;simp at hk
theorem Tryz.guardEnt:prog.eqGuardType prog.depth 44=false:=by kernel_rfl
theorem q8v (a b:Fd.En) (w:World):(binOp .neq 44 (.agg #[.string (st a.id),.string (st a.ti),.string (st a.li),.int .i64 a.at_,.string (st a.ht)]) (.agg #[.string (st b.id),.string (st b.ti),.string (st b.li),.int .i64 b.at_,.string (st b.ht)])).run prog w=.ok (.bool (!decide (a=b))) w:=by
 have hst:∀ l,(st l).toList=l:=fun l=>Lib.toList_data _
 rw[run_neq_struct];simp[run_equalIn_struct,go_sem];simp only [hst];obtain⟨a1,a2,a3,a4,a5⟩:=a;obtain⟨b1,b2,b3,b4,b5⟩:=b;have e:decide ((⟨a1,a2,a3,a4,a5⟩:Fd.En)=⟨b1,b2,b3,b4,b5⟩)=decide (a1=b1∧a2=b2∧a3=b3∧a4=b4∧a5=b5):=by
  rw[Bool.eq_iff_iff];simp
 rw[e]
 by_cases h1:a1=b1
 ·by_cases h2:a2=b2
  ·by_cases h3:a3=b3
   ·by_cases h4:a4=b4
    ·by_cases h5:a5=b5
     ·simp[h1,h2,h3,h4,h5]
     ·simp[h1,h2,h3,h4,h5]
    ·simp[h1,h2,h3,h4]
   ·simp[h1,h2,h3]
  ·simp[h1,h2]
 ·simp[h1]
theorem q28 (l m:List Fd.En) (v u:Value) (K K2:Nat→Prop) (w:World) (hv:z18 w K v l) (hu:z18 w K2 u m) (hK:∀ b,K b→b < w.heap.size) (hK2:∀ b,K2 b→b < w.heap.size) (hl:l.length≤33554432) :
  Calls prog 29 #[v,u] w fun e w'=>e=.returned (.bool (decide (l=m)))∧Below w.heap.size w w':=by
 obtain⟨ao,cap,hv1,hvm,hvc⟩:=hv.get;obtain⟨au,cau,hu1,hum,huc⟩:=hu.get;subst hv1;subst hu1;have HV:=Ld hvc;have HU:=Ld huc;have HK:=Ld hK;have HK2:=Ld hK2;clear hvc huc hv hu hvm hum hK hK2
 by_cases hlen:l.length=m.length
 ·have HLE:=Ld hlen
  have hm:m.length=l.length:=hlen.symm;rw[hm];clear hlen hm;go_enter func29,ntmps29;go_wp2_with fail
  go_loopw [5] (fun i wr=>∃ k:Nat,k≤l.length∧i=.int .i64 k∧Hid (l.take k=m.take k)∧Hid (Below w.heap.size w wr)) (fun i _=>l.length - (intOf i).toNat)
  case atStart=>exact⟨0,Nat.zero_le _,rfl,rfl,Below.refl _ _⟩
  case round =>
   obtain⟨k,hk,rfl,HT,BL⟩:=hrel
   by_cases hlt:k < l.length
   ·have hlt2:k < m.length:=by have:=HLE.out;omega
    obtain⟨g,o,rfl,hKg,c0,c1,c2,c3,c4⟩:=HV.out k hlt;obtain⟨g2,o2,rfl,hKg2,d0,d1,d2,d3,d4⟩:=HU.out k hlt2;rw[← BL.out.cell (p:=⟨g,_,none⟩) (HK.out g hKg)] at c0 c1 c2 c3 c4;rw[← BL.out.cell (p:=⟨g2,_,none⟩) (HK2.out g2 hKg2)] at d0 d1 d2 d3 d4;have hne:=fun W=>q8v l[k] m[k] W
    have hgd:=fun X Y W=>run_eqGuard_agg (P:=prog) W .neq 44 X Y #[.string (st l[k].id),.string (st l[k].ti),.string (st l[k].li),.int .i64 l[k].at_,.string (st l[k].ht)] #[.string (st m[k].id),.string (st m[k].ti),.string (st m[k].li),.int .i64 m[k].at_,.string (st m[k].ht)] Tryz.guardEnt
    have HS:Hid (l.take (k + 1)=m.take (k + 1)↔l[k]=m[k]):=take_same l m k hlt hlt2 HT.out;have HS2:Hid (l[k] ≠ m[k]→l ≠ m):=fun h e=>h (by subst e;rfl)
    obtain⟨x,hx⟩:∃ x,l[k]=x:=⟨_,rfl⟩;obtain⟨y,hy⟩:∃ y,m[k]=y:=⟨_,rfl⟩;rw[hx] at c0 c1 c2 c3 c4;rw[hy] at d0 d1 d2 d3 d4;rw[hx,hy] at hne hgd HS HS2;clear hx hy
    by_cases hxy:x=y
    ·have hdx:decide (x=y)=true:=decide_eq_true hxy
     rw[hdx] at hne;have HT2:Hid (l.take (k + 1)=m.take (k + 1)):=HS.out.2 hxy;clear hxy hdx HS HS2 HT;go_upto_region 6 with fail
     go_region
     all_goals
      go_wp2_with fail;go_roundw
      case rel=>exact⟨k + 1,by omega,by go_num,HT2.out,BL.out.drew⟩
      case measure=>simp[intOf];omega
    ·have hdx:decide (x=y)=false:=decide_eq_false hxy
     rw[hdx] at hne;have HN:Hid (decide (l=m)=false):=decide_eq_false (HS2.out hxy);clear hxy hdx HS HS2 HT;go_upto_region 6 with fail
     go_region
     all_goals
      go_wp2_with fail;go_ret;exact⟨Z8 (by rw[HN.out]),BL.out.drew⟩
   ·have HN:Hid (decide (l=m)=true):=by
     show _=_;have h:=HT.out;have h2:=HLE.out;rw[List.take_of_length_le (by omega),List.take_of_length_le (by omega)] at h;exact decide_eq_true h
    clear HT HLE;go_wp2_with fail;go_ret;exact⟨Z8 (by rw[HN.out]),BL.out⟩
 ·have HN:Hid (decide (l=m)=false):=decide_eq_false (fun e=>hlen (by rw[e]))
  have hln:¬ (l.length:Int)=m.length:=by omega
  clear hlen;go_enter func29,ntmps29;go_wp2_with fail;go_ret;exact⟨Z8 (by rw[HN.out]),Below.refl _ _⟩
end Go.Proofs.YtjonkbdldebkiaaGreatDoor
namespace Fd
theorem q9p:∀ (l m:List En) (x:En),(∀ y ∈ l,ordE y x < 0)→insE (l++m) x=l++insE m x
 | [],_,_,_=>rfl
 | z :: r,m,x,h=>by
  show insE (z :: (r++m)) x=_;rw[insE,if_pos (h z (List.mem_cons_self ..)),q9p r m x (fun y hy=>h y (List.mem_cons_of_mem _ hy))];rfl
theorem q4s:∀ (l:List En) (x:En),l.Pairwise (fun a b=>a.id ≠ b.id)→l.Pairwise (fun a b=>ordE a b < 0)→x ∈ l→insE (l.eraseP (fun y=>y.id == x.id)) x=l
 | [],x,_,_,h=>by cases h
 | z :: r,x,h1,h2,h=>by
  obtain⟨a,b⟩:=List.pairwise_cons.1 h1;obtain⟨c,d⟩:=List.pairwise_cons.1 h2
  by_cases q:(z.id == x.id)=true
  ·have hzx:z=x:=by
    rcases List.mem_cons.1 h with e | e
    ·exact e.symm
    ·exact absurd (beq_iff_eq.1 q) (a x e)
   rw[List.eraseP_cons_of_pos (by exact q),hzx]
   cases r with
   | nil=>rfl
   | cons y r' =>
    have hc:=c y (List.mem_cons_self ..);rw[hzx] at hc;have:=q6q x y;rw[insE,if_neg (by omega)]
  ·rw[List.eraseP_cons_of_neg (by exact q)]
   have hx:x ∈ r:=by
    rcases List.mem_cons.1 h with e | e
    ·exact absurd (by rw[e];exact beq_self_eq_true _) q
    ·exact e
   rw[insE,if_pos (c x hx),q4s r x b d hx]
def Has (l:List En) (x:En):Prop:=∃ y ∈ l,y.id=x.id∧(y=x∨x.at_ < y.at_)
theorem j1b (l:List En) (i:Bs) (y:En) (h:l.Pairwise (fun a b=>a.id ≠ b.id)) (hy:y ∈ l) (hi:y.id=i):l.find? (fun z=>z.id == i)=some y:=by
 induction l with
 | nil=>cases hy
 | cons z r ih =>
  obtain⟨a,b⟩:=List.pairwise_cons.1 h
  by_cases q:(z.id == i)=true
  ·have e:z=y:=by
    rcases List.mem_cons.1 hy with e | e
    ·exact e.symm
    ·exact absurd ((beq_iff_eq.1 q).trans hi.symm) (a y e)
   rw[List.find?_cons_of_pos (by exact q),e]
  ·rw[List.find?_cons_of_neg (by exact q)]
   rcases List.mem_cons.1 hy with e | e
   ·rw[← e,hi] at q;exact absurd (beq_self_eq_true _) q
   ·exact ih b e
theorem putE_mem (l:List En) (x y:En) (h:y ∈ l) (hi:y.id ≠ x.id):y ∈ putE l x:=by
 unfold putE
 cases hf:l.find? (fun y=>y.id == x.id) with
 | none=>exact(q0a l x y).2 (.inr h)
 | some z =>
  simp only
  split
  ·exact h
  ·refine(q0a _ x y).2 (.inr ?_)
   exact(List.mem_eraseP_of_neg (by simpa using hi)).2 h
theorem putE_has (l:List En) (x:En):Has (putE l x) x:=by
 unfold putE Has
 cases hf:l.find? (fun y=>y.id == x.id) with
 | none=>exact⟨x,(q0a l x x).2 (.inl rfl),rfl,.inl rfl⟩
 | some z =>
  simp only;have hz:=List.mem_of_find?_eq_some hf;have hzi:z.id=x.id:=by have:=List.find?_some hf;exact beq_iff_eq.1 this
  split
  ·rename_i hlt
   exact⟨z,hz,hzi,.inr hlt⟩
  ·exact⟨x,(q0a _ x x).2 (.inl rfl),rfl,.inl rfl⟩
theorem j7d:∀ (xs l:List En) (y:En),y ∈ l→(∀ x ∈ xs,y.id ≠ x.id)→y ∈ xs.foldl putE l
 | [],_,_,h,_=>h
 | x :: r,l,y,h,hi=>j7d r (putE l x) y (putE_mem l x y h (hi x (List.mem_cons_self ..))) (fun z hz=>hi z (List.mem_cons_of_mem _ hz))
theorem j6l:∀ (xs l:List En),xs.Pairwise (fun a b=>a.id ≠ b.id)→∀ x ∈ xs,Has (xs.foldl putE l) x
 | [],_,_,x,h=>by cases h
 | z :: r,l,h,x,hx=>by
  obtain⟨a,b⟩:=List.pairwise_cons.1 h
  rcases List.mem_cons.1 hx with e | e
  ·subst e
   obtain⟨y,h1,h2,h3⟩:=putE_has l x;exact⟨y,j7d r (putE l x) y h1 (fun w hw=>by rw[h2];exact a w hw),h2,h3⟩
  ·exact j6l r (putE l z) b x e
theorem j8o (x y:En) (h:x.at_ < y.at_):ordE y x < 0:=by
 unfold ordE;rw[if_neg (by omega)];omega
theorem q1l (T D:List En) (hT:T.length=20∨D=[]) (hs:z1e (T++D)):∀ (xs tail:List En),(∀ x ∈ xs,Has (T++D) x)→(∀ x ∈ xs,z03 x=0)→xs.Pairwise (fun a b=>a.id ≠ b.id)→z1e (T++tail)→(∀ x ∈ xs,∀ y ∈ tail,y.id ≠ x.id)→(tail=[]∨T.length=20) →
  ∃ tail',xs.foldl putE (T++tail)=T++tail'∧(tail'=[]∨T.length=20)
 | [],tail,_,_,_,_,_,ht=>⟨tail,rfl,ht⟩
 | x :: r,tail,hx,hc,hp,hm,hd,ht=>by
  obtain⟨a,b⟩:=List.pairwise_cons.1 hp;obtain⟨y,hy,hyi,hyx⟩:=hx x (List.mem_cons_self ..);have hidT:∀ z ∈ T++D,z.id=x.id→z=y:=fun z hz hzi=>by
   have h1:=j1b (T++D) x.id z hs.2.1 hz hzi;have h2:=j1b (T++D) x.id y hs.2.1 hy hyi;rw[h1] at h2;injection h2
  by_cases hyT:y ∈ T
  ·have hyM:y ∈ T++tail:=List.mem_append.2 (.inl hyT)
   have hsame:putE (T++tail) x=T++tail:=by
    unfold putE;rw[j1b (T++tail) x.id y hm.2.1 hyM hyi];simp only
    rcases hyx with e | e
    ·subst e
     rw[if_neg (by omega)];exact q4s _ y hm.2.1 hm.2.2 hyM
    ·rw[if_pos e]
   show ∃ tail',r.foldl putE (putE (T++tail) x)=_∧_;rw[hsame];exact q1l T D hT hs r tail (fun z hz=>hx z (List.mem_cons_of_mem _ hz)) (fun z hz=>hc z (List.mem_cons_of_mem _ hz)) b hm (fun z hz=>hd z (List.mem_cons_of_mem _ hz)) ht
  ·have hyD:y ∈ D:=(List.mem_append.1 hy).resolve_left hyT
   have hT2:T.length=20:=hT.resolve_right (fun e=>by rw[e] at hyD;cases hyD);have hTy:∀ z ∈ T,ordE z x < 0:=fun z hz=>by
    have h1:=(List.pairwise_append.1 hs.2.2).2.2 z hz y hyD
    rcases hyx with e | e
    ·rw[← e];exact h1
    ·exact z9c _ _ _ h1 (j8o x y e)
   have hid:∀ z ∈ T++tail,z.id ≠ x.id:=fun z hz e=>by
    rcases List.mem_append.1 hz with q | q
    ·exact hyT (by rw[← hidT z (List.mem_append.2 (.inl q)) e];exact q)
    ·exact hd x (List.mem_cons_self ..) z q e
   have hput:putE (T++tail) x=T++insE tail x:=by
    unfold putE;have hf:(T++tail).find? (fun z=>z.id == x.id)=none:=List.find?_eq_none.2 (fun z hz=>by simpa using hid z hz);rw[hf];exact q9p T tail x hTy
   have hm2:z1e (T++insE tail x):=by
    rw[← hput];exact j2p _ x hm (hc x (List.mem_cons_self ..))
   show ∃ tail',r.foldl putE (putE (T++tail) x)=_∧_;rw[hput];refine q1l T D hT hs r (insE tail x) (fun z hz=>hx z (List.mem_cons_of_mem _ hz)) (fun z hz=>hc z (List.mem_cons_of_mem _ hz)) b hm2 (fun z hz w hw=>?_) (.inr hT2)
   rcases (q0a tail x w).1 hw with q | q
   ·rw[q];exact a z hz
   ·exact hd z (List.mem_cons_of_mem _ hz) w q
theorem j4l (l xs:List En) (h:z1e l) (hc:∀ x ∈ xs,z03 x=0) (hp:xs.Pairwise (fun a b=>a.id ≠ b.id)):z7i (z7i l xs) xs=z7i l xs:=by
 have hL:=z7x xs l h hc;have hH:=j6l xs l hp;unfold z7i;generalize xs.foldl putE l=L at hL hH ⊢;have e:L.take 20++L.drop 20=L:=List.take_append_drop 20 L;have hT:(L.take 20).length=20∨L.drop 20=[]:=by
  rcases Nat.lt_or_ge L.length 20 with q | q
  ·exact .inr (List.drop_of_length_le (by omega))
  ·left;rw[List.length_take];omega
 obtain⟨tail,h1,h2⟩:=q1l (L.take 20) (L.drop 20) hT (by rw[e];exact hL) xs [] (by rw[e];exact hH) hc hp (by rw[List.append_nil];exact hL.sub (List.take_sublist ..)) (fun _ _ _ hy=>by cases hy) (.inl rfl);rw[List.append_nil] at h1;rw[h1]
 rcases h2 with h2 | h2
 ·rw[h2,List.append_nil,List.take_take];rfl
 ·rw[List.take_append_of_le_length (by omega),List.take_take];rfl
def Sh.none:Sh:=⟨[],[]⟩
def z3t (s:Sh) (i:Bs) (read:Bool):Sh × Int :=
 if (s.es.any fun x=>x.id == i)=false then (Sh.none,5)
 else if read=true then (if i ∈ s.rd then (s,0) else if s.rd.length=40 then (Sh.none,2) else (⟨s.es,insB s.rd i⟩,0))
 else (⟨s.es,s.rd.filter fun x=>x != i⟩,0)
def z96 (s:Sh):Sh:=⟨s.es.filter fun x=>!s.rd.contains x.id,s.rd⟩
structure Ac where
 kind:Int
 text:Bs
 base:Bs
def z0w (a:Ac):Int:=if a.kind < 1∨4 < a.kind then 7 else if (a.kind ≠ 1∧a.base ≠ [])∨(a.kind=4∧a.text ≠ []) then 1 else 0
def newE (l m:List En):Int:=((l.filter fun x=>!m.contains x).length:Nat)
def stepS (F:Bs→Bs→List En × Int) (s:Sh) (a:Ac):Sh × Int × Int :=
 if z0e s ≠ 0 then (Sh.none,0,z0e s)
 else if z0w a ≠ 0 then (Sh.none,0,z0w a)
 else if a.kind=1 then
  let x:=F a.base a.text
  if x.2 ≠ 0 then (Sh.none,0,x.2) else (⟨z7i s.es x.1,s.rd⟩,newE (z7i s.es x.1) s.es,0)
 else if a.kind=4 then (z96 s,(s.es.length:Int) - (z96 s).es.length,0)
 else
  let y:=z3t s a.text (decide (a.kind=2))
  if y.2 ≠ 0 then (Sh.none,0,y.2) else (y.1,1,0)
def q2e (F:Bs→Bs→List En × Int):Prop:=∀ b s,(F b s).2=0→(∀ x ∈ (F b s).1,z03 x=0)∧(F b s).1.Pairwise (fun a b=>a.id ≠ b.id)
theorem q21 {x:En} (h:z03 x=0):x.id ≠ []∧x.id.length≤60:=by
 unfold z03 at h
 by_cases h1:x.id=[]
 ·rw[if_pos h1] at h;cases h
 rw[if_neg h1] at h
 by_cases h2:60 < x.id.length∨3000 < x.ti.length∨3000 < x.li.length∨3000 < x.ht.length
 ·rw[if_pos h2] at h;cases h
 exact⟨h1,by omega⟩
theorem q9o:∀ (l:List Bs) (x:Bs),(insB l x).length=l.length + 1
 | [],x=>rfl
 | z :: r,x=>by
  rw[insB]
  split
  ·rw[List.length_cons,q9o r x];rfl
  ·rfl
theorem q8a (s:Sh) (i:Bs) (read:Bool) (h:z8x s) (he:(z3t s i read).2=0):z8x (z3t s i read).1:=by
 unfold z3t at he ⊢
 by_cases h1:(s.es.any fun x=>x.id == i)=false
 ·rw[if_pos h1] at he;cases he
 rw[if_neg h1] at he ⊢;obtain⟨x,hx,hxi⟩:∃ x ∈ s.es,(x.id == i)=true:=by
  have:(s.es.any fun x=>x.id == i)=true:=by simpa using h1
  rw[List.any_eq_true] at this;exact this
 have hid:=q21 (h.2.2.1.1 x hx);rw[beq_iff_eq.1 hxi] at hid
 by_cases h2:read=true
 ·rw[if_pos h2] at he ⊢
  by_cases h3:i ∈ s.rd
  ·rw[if_pos h3];exact h
  rw[if_neg h3] at he ⊢
  by_cases h4:s.rd.length=40
  ·rw[if_pos h4] at he;cases he
  rw[if_neg h4];have:=h.2.1;exact⟨h.1,by show (insB s.rd i).length≤40;rw[q9o];omega,h.2.2.1,j1y s.rd i h.2.2.2 hid h3⟩
 ·rw[if_neg h2]
  have hs:(s.rd.filter fun x=>x != i).Sublist s.rd:=List.filter_sublist ..;exact⟨h.1,Nat.le_trans hs.length_le h.2.1,h.2.2.1,h.2.2.2.sub hs⟩
theorem j1c (s:Sh) (i:Bs) (read:Bool) (he:(z3t s i read).2=0):z3t (z3t s i read).1 i read=((z3t s i read).1,0):=by
 unfold z3t at he ⊢
 by_cases h1:(s.es.any fun x=>x.id == i)=false
 ·rw[if_pos h1] at he;cases he
 rw[if_neg h1] at he ⊢
 by_cases h2:read=true
 ·rw[if_pos h2] at he ⊢
  by_cases h3:i ∈ s.rd
  ·rw[if_pos h3];simp only;rw[if_neg h1,if_pos h2,if_pos h3]
  rw[if_neg h3] at he ⊢
  by_cases h4:s.rd.length=40
  ·rw[if_pos h4] at he;cases he
  rw[if_neg h4];simp only;rw[if_neg h1,if_pos h2,if_pos ((q4l s.rd i i).2 (.inl rfl))]
 ·rw[if_neg h2]
  simp only;rw[if_neg h1,if_neg h2,List.filter_filter];simp only [Bool.and_self]
theorem q7y (s:Sh) (h:z8x s):z8x (z96 s):=by
 have hs:(s.es.filter fun x=>!s.rd.contains x.id).Sublist s.es:=List.filter_sublist ..;exact⟨Nat.le_trans hs.length_le h.1,h.2.1,h.2.2.1.sub hs,h.2.2.2⟩
theorem j1a (s:Sh):z96 (z96 s)=z96 s:=by
 unfold z96;simp only [List.filter_filter,Bool.and_self]
theorem j8q (l:List En):newE l l=0:=by
 unfold newE;have:(l.filter fun x=>!l.contains x)=[]:=by
  rw[List.filter_eq_nil_iff];intro x hx;simp[hx]
 rw[this];rfl
theorem q1i (F:Bs→Bs→List En × Int) (hF:q2e F) (s:Sh) (a:Ac) (he:(stepS F s a).2.2=0):z0e (stepS F s a).1=0:=by
 unfold stepS at he ⊢
 by_cases h1:z0e s ≠ 0
 ·rw[if_pos h1] at he;exact absurd he h1
 rw[if_neg h1] at he ⊢;have hr:=(z01 s).1 (by omega)
 by_cases h2:z0w a ≠ 0
 ·rw[if_pos h2] at he;exact absurd he h2
 rw[if_neg h2] at he ⊢;rw[z01]
 by_cases h3:a.kind=1
 ·rw[if_pos h3] at he ⊢
  simp only at he ⊢
  by_cases h4:(F a.base a.text).2 ≠ 0
  ·rw[if_pos h4] at he;exact absurd he h4
  rw[if_neg h4];obtain⟨g1,_⟩:=hF a.base a.text (by omega);obtain⟨g3,g4⟩:=q8n s.es _ hr.2.2.1 g1;exact⟨g4,hr.2.1,g3,hr.2.2.2⟩
 rw[if_neg h3] at he ⊢
 by_cases h4:a.kind=4
 ·rw[if_pos h4];exact q7y s hr
 rw[if_neg h4] at he ⊢;simp only at he ⊢
 by_cases h5:(z3t s a.text (decide (a.kind=2))).2 ≠ 0
 ·rw[if_pos h5] at he;exact absurd he h5
 rw[if_neg h5];exact q8a s a.text _ hr (by omega)
theorem j4m (F:Bs→Bs→List En × Int) (hF:q2e F) (s:Sh) (a:Ac) (he:(stepS F s a).2.2=0) :
  ∃ k,stepS F (stepS F s a).1 a=((stepS F s a).1,k,0)∧(k=0∨a.kind=2∨a.kind=3):=by
 have hr2:=q1i F hF s a he;have hdef:stepS F (stepS F s a).1 a=if z0e (stepS F s a).1 ≠ 0 then (Sh.none,0,z0e (stepS F s a).1) else if z0w a ≠ 0 then (Sh.none,0,z0w a) else if a.kind=1 then (let x:=F a.base a.text;if x.2 ≠ 0 then (Sh.none,0,x.2) else (⟨z7i (stepS F s a).1.es x.1,(stepS F s a).1.rd⟩,newE (z7i (stepS F s a).1.es x.1) (stepS F s a).1.es,0)) else if a.kind=4 then (z96 (stepS F s a).1,((stepS F s a).1.es.length:Int) - (z96 (stepS F s a).1).es.length,0) else (let y:=z3t (stepS F s a).1 a.text (decide (a.kind=2));if y.2 ≠ 0 then (Sh.none,0,y.2) else (y.1,1,0)):=rfl
 rw[hdef,if_neg (by rw[hr2];simp)];clear hdef hr2;unfold stepS at he ⊢
 by_cases h1:z0e s ≠ 0
 ·rw[if_pos h1] at he;exact absurd he h1
 rw[if_neg h1] at he;simp only [if_neg h1];have hr:=(z01 s).1 (by omega)
 by_cases h2:z0w a ≠ 0
 ·rw[if_pos h2] at he;exact absurd he h2
 rw[if_neg h2] at he;simp only [if_neg h2]
 by_cases h3:a.kind=1
 ·rw[if_pos h3] at he
  simp only [if_pos h3];simp only at he
  by_cases h4:(F a.base a.text).2 ≠ 0
  ·rw[if_pos h4] at he;exact absurd he h4
  simp only [if_neg h4];obtain⟨g1,g2⟩:=hF a.base a.text (by omega);rw[j4l s.es _ hr.2.2.1 g1 g2,j8q];exact⟨0,rfl,.inl rfl⟩
 rw[if_neg h3] at he;simp only [if_neg h3]
 by_cases h4:a.kind=4
 ·simp only [if_pos h4]
  rw[j1a];exact⟨_,rfl,.inl (by omega)⟩
 rw[if_neg h4] at he;simp only [if_neg h4];simp only at he
 by_cases h5:(z3t s a.text (decide (a.kind=2))).2 ≠ 0
 ·rw[if_pos h5] at he;exact absurd he h5
 simp only [if_neg h5];rw[j1c s a.text _ (by omega)];have hk:a.kind=2∨a.kind=3:=by
  unfold z0w at h2
  by_cases q:a.kind < 1∨4 < a.kind
  ·rw[if_pos q] at h2;exact absurd (by decide) h2
  ·omega
 exact⟨1,by simp,.inr hk⟩
theorem j2a (a b:List En) (x:En) (ha:∀ y ∈ a,ordE y x < 0) (hb:∀ y ∈ b,0≤ordE y x):insE (a++b) x=a++x :: b:=by
 rw[q9p a b x ha]
 cases b with
 | nil=>rfl
 | cons y r=>rw[insE,if_neg (by have:=hb y (List.mem_cons_self ..);omega)]
theorem q9n:∀ (l m:List Bs) (x:Bs),(∀ y ∈ l,cmpB y x < 0)→insB (l++m) x=l++insB m x
 | [],_,_,_=>rfl
 | z :: r,m,x,h=>by
  show insB (z :: (r++m)) x=_;rw[insB,if_pos (h z (List.mem_cons_self ..)),q9n r m x (fun y hy=>h y (List.mem_cons_of_mem _ hy))];rfl
theorem j1z (a b:List Bs) (x:Bs) (ha:∀ y ∈ a,cmpB y x < 0) (hb:∀ y ∈ b,0≤cmpB y x):insB (a++b) x=a++x :: b:=by
 rw[q9n a b x ha]
 cases b with
 | nil=>rfl
 | cons y r=>rw[insB,if_neg (by have:=hb y (List.mem_cons_self ..);omega)]
theorem q4v (l:List En) (i:Bs) (j:Nat) (hj:j < l.length) (h1:l[j].id=i) (h2:∀ x ∈ l.take j,(x.id == i)=false):l.find? (fun y=>y.id == i)=some l[j]∧l.eraseP (fun y=>y.id == i)=l.take j++l.drop (j + 1):=by
 have e:l=l.take j++l[j] :: l.drop (j + 1):=by rw[List.getElem_cons_drop,List.take_append_drop]
 constructor
 ·conv=>lhs;rw[e]
  rw[List.find?_append,List.find?_eq_none.2 (fun x hx=>by rw[h2 x hx];decide),Option.none_or,List.find?_cons_of_pos (by simpa using h1)]
 ·conv=>lhs;rw[e]
  rw[List.eraseP_append_right _ (fun x hx=>by rw[h2 x hx];decide),List.eraseP_cons_of_pos (by simpa using h1)]
theorem place_no (l:List En) (i:Bs) (h:∀ x ∈ l,(x.id == i)=false):l.find? (fun y=>y.id == i)=none:=List.find?_eq_none.2 (fun x hx=>by rw[h x hx];decide)
theorem putE_no (l:List En) (x:En) (h:∀ y ∈ l,(y.id == x.id)=false):putE l x=insE l x:=by
 unfold putE;rw[place_no l x.id h]
theorem putE_old (l:List En) (x:En) (j:Nat) (hj:j < l.length) (h1:l[j].id=x.id) (h2:∀ y ∈ l.take j,(y.id == x.id)=false) (h3:x.at_ < l[j].at_):putE l x=l:=by
 unfold putE;rw[(q4v l x.id j hj h1 h2).1];exact if_pos h3
theorem putE_new (l:List En) (x:En) (j:Nat) (hj:j < l.length) (h1:l[j].id=x.id) (h2:∀ y ∈ l.take j,(y.id == x.id)=false) (h3:¬ x.at_ < l[j].at_):putE l x=insE (l.take j++l.drop (j + 1)) x:=by
 unfold putE;rw[(q4v l x.id j hj h1 h2).1,← (q4v l x.id j hj h1 h2).2];exact if_neg h3
theorem q9u (l:List En) (x:En) (h:l.Pairwise (fun a b=>ordE a b < 0)) (a b:Nat) (hab:a≤b) (hb:b < l.length) (hlt:ordE l[b] x < 0):ordE (l[a]'(by omega)) x < 0:=by
 rcases Nat.lt_or_ge a b with q | q
 ·exact z9c _ _ _ (List.pairwise_iff_getElem.1 h a b (by omega) hb q) hlt
 ·have:a=b:=by omega
  subst this;exact hlt
theorem j5s (l:List Bs) (j:Nat) (hj:j < l.length) (h:l.Pairwise (fun a b=>cmpB a b < 0)):(l.filter fun x=>x != l[j])=l.take j++l.drop (j + 1):=by
 have e:l=l.take j++l[j] :: l.drop (j + 1):=by rw[List.getElem_cons_drop,List.take_append_drop]
 have hp:=h;rw[e,List.pairwise_append,List.pairwise_cons] at hp;obtain⟨_,⟨h2,_⟩,h4⟩:=hp;have ne1:∀ x ∈ l.take j,(x != l[j])=true:=fun x hx=>by
  have:=h4 x hx l[j] (List.mem_cons_self ..);simp only [bne_iff_ne,ne_eq];intro q;rw[q,(z6g _ _).2 rfl] at this;omega
 have ne2:∀ x ∈ l.drop (j + 1),(x != l[j])=true:=fun x hx=>by
  have:=h2 x hx;simp only [bne_iff_ne,ne_eq];intro q;rw[q,(z6g _ _).2 rfl] at this;omega
 conv=>lhs;arg 2;rw[e]
 rw[List.filter_append,List.filter_cons_of_neg (by simp),List.filter_eq_self.2 ne1,List.filter_eq_self.2 ne2]
theorem j5t (l:List Bs) (i:Bs) (h:i ∉ l):(l.filter fun x=>x != i)=l:=List.filter_eq_self.2 (fun x hx=>by simp only [bne_iff_ne,ne_eq];rintro rfl;exact h hx)
theorem q6f (l:List Bs) (i:Bs) (k:Nat) (hk:k≤l.length) (h:l.Pairwise (fun a b=>cmpB a b < 0)) (h1:∀ y ∈ l.take k,cmpB y i < 0) (h2:∀ y ∈ l.drop k,0≤cmpB y i):i ∈ l↔∃ q:k < l.length,l[k]=i:=by
 constructor
 ·intro hi
  rw[← List.take_append_drop k l] at hi
  rcases List.mem_append.1 hi with q | q
  ·have:=h1 i q;rw[(z6g _ _).2 rfl] at this;omega
  ·have hlt:k < l.length:=by
    rcases Nat.lt_or_ge k l.length with z | z
    ·exact z
    ·rw[List.drop_of_length_le z] at q;cases q
   refine⟨hlt,?_⟩;rw[← List.getElem_cons_drop hlt] at q h2
   rcases List.mem_cons.1 q with e | e
   ·exact e.symm
   ·have hp:=h
    rw[← List.take_append_drop k l,List.pairwise_append,← List.getElem_cons_drop hlt,List.pairwise_cons] at hp;have hlt2:=hp.2.1.1 i e;have:=h2 l[k] (List.mem_cons_self ..);omega
 ·rintro ⟨q,rfl⟩
  exact List.getElem_mem _
end Fd
