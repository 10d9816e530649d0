/- Contracts of slices.IndexFunc and slices.ContainsFunc over attributes, for whatever closure only computes. -/
import Derived.Test.YtjonkbdldebkiaaGreatDoorProg
import Derived.Test.YtjonkbdldebkiaaGreatDoorVWdA
import Derived.Conc.MuLone
import Derived.WalkKit
import Derived.ChangeAlike
import Derived.Deep.CutBlock
import Derived.Deep.DeepCutAuto
set_option linter.unusedVariables false
set_option linter.unusedSimpArgs false
set_option maxHeartbeats 1000000
namespace Go.Proofs.YtjonkbdldebkiaaGreatDoor
open Go.Proofs.Tryz Go.RowKit
def atV (a:Mk.At):Value:=.agg #[.string (st a.n),.string (st a.v)]
def q5m (g:FuncId) (lb:Array Value) (q:Mk.At→Bool) (l:List Mk.At) (w:World):Prop :=
 ∀ w1,Below w.heap.size w w1→∀ a,a ∈ l→Calls prog g (#[atV a]++lb) w1 fun e w'=>e=.returned (.bool (q a))∧Below w1.heap.size w1 w'
theorem q0i (l:List Mk.At) (k:Nat) (h:k < l.length):(Y8 l)[2 * k]? = some (.string (st l[k].n))∧(Y8 l)[2 * k + 1]? = some (.string (st l[k].v)):=by
 induction l generalizing k with
 | nil=>simp at h
 | cons a t ih =>
  cases k with
  | zero=>exact⟨rfl,rfl⟩
  | succ k =>
   have h':k < t.length:=by simpa using h
   have e:Y8 (a :: t)=[.string (st a.n),.string (st a.v)]++Y8 t:=rfl;rw[e,show 2 * (k + 1)=2 * k + 2 by omega];obtain⟨h1,h2⟩:=ih k h';exact⟨by rw[List.getElem?_append_right (by simp)];simpa using h1,by rw[List.getElem?_append_right (by simp)];simpa using h2⟩
theorem z7u (l:List Mk.At):(Y8 l).length=l.length * 2:=by
 induction l with
 | nil=>rfl
 | cons a t ih=>rw[show Y8 (a :: t)=[.string (st a.n),.string (st a.v)]++Y8 t from rfl,List.length_append,ih,List.length_cons];simp;omega
theorem AtsV.at_ {w:World} {K:Nat→Prop} {v:Value} {l:List Mk.At} (h:AtsV w K v l):∃ g o cap,(l ≠ []→K g)∧(v=.slice (some ⟨g,o,none⟩) l.length cap∨∃ ao,v=.slice ao 0 cap∧l=[])∧∀ k (hk:k < l.length),w.cell? ⟨g,o + k * 2,none⟩=some (.string (st l[k].n))∧w.cell? ⟨g,o + k * 2 + 1,none⟩=some (.string (st l[k].v)):=by
 obtain⟨ao,cap,h1,h2,_⟩:=h
 rcases h2 with h2 | ⟨g,o,h3,h4,h5⟩
 ·have:l=[]:=List.eq_nil_of_length_eq_zero (by have:=z7u l;rw[h2] at this;simp at this;omega)
  subst this;exact⟨0,0,cap,fun h=>absurd rfl h,.inr ⟨ao,h1,rfl⟩,fun k hk=>absurd hk (Nat.not_lt_zero _)⟩
 ·refine⟨g,o,cap,fun _=>h4,.inl (by rw[h1,h3]),fun k hk=>?_⟩
  obtain⟨e1,e2⟩:=q0i l k hk;rw[Nat.mul_comm k 2];exact⟨h5 _ _ e1,by rw[Nat.add_assoc];exact h5 _ _ e2⟩

theorem q73 (g:FuncId) (lb:Array Value) (q:Mk.At→Bool) (eg:∀ args w,(callFunc g args).run prog w=.ok (.enter g args) w) (l:List Mk.At) (v:Value) (K:Nat→Prop) (w:World) (hv:AtsV w K v l) (hK:∀ b,K b→b < w.heap.size) (hl:l.length≤33554432) (hq:q5m g lb q l w) :
  Calls prog 178 #[v,.func (.func g) #[] lb] w fun e w'=>∃ i:Int,e=.returned (.int .i64 i)∧(decide (0≤i)=l.any q)∧Below w.heap.size w w':=by
 obtain⟨b,o,cap,hKb,hv1,hcl⟩:=hv.at_
 have HQ:=Ld hq;have HC:=Ld hcl;clear hq hcl
 rcases hv1 with hv1 | ⟨ao,hv1,hl0⟩
 ·subst hv1
  go_enter func178,ntmps178;go_wp2_with fail
  go_loopw [8] (fun i wr=>∃ k:Nat,k≤l.length∧i=.int .i64 k∧Hid (l.any q=(l.drop k).any q)∧Hid (Below w.heap.size w wr)) (fun i _=>l.length - (intOf i).toNat)
  case atStart=>exact⟨0,Nat.zero_le _,rfl,rfl,Below.refl _ _⟩
  case round =>
   obtain⟨k,hk,rfl,HA,BL⟩:=hrel
   by_cases hlt:k < l.length
   ·have hb:b < w.heap.size:=hK b (hKb (by intro e;subst e;simp at hlt))
    obtain⟨c0,c1⟩:=HC.out k hlt;rw[← BL.out.cell (p:=⟨b,_,none⟩) hb] at c0 c1;have hcall:=HQ.out wr BL.out l[k] (List.getElem_mem _);have HD:Hid (l.any q=(q l[k] || (l.drop (k + 1)).any q)):=by show _=_;rw[HA.out,List.drop_eq_getElem_cons hlt];rfl
    generalize q l[k]=bb at hcall HD;unfold atV at hcall;have HCALL:=Ld hcall;clear hcall
    cases bb with
    | true =>
     go_wp2_with fail;refine HCALL.out.mono ?_;rintro e w1 ⟨rfl,hb1⟩;have BL1:=BL.out.trans (hb1.mono BL.out.size);go_wp2_with fail;go_ret;exact⟨k,rfl,by rw[HD.out,Bool.true_or];simp,BL1⟩
    | false =>
     go_wp2_with fail;refine HCALL.out.mono ?_;rintro e w1 ⟨rfl,hb1⟩;have BL1:=BL.out.trans (hb1.mono BL.out.size);go_wp2_with fail;go_roundw
     case rel=>exact⟨k + 1,by omega,by go_num,by show _=_;rw[HD.out,Bool.false_or],BL1⟩
     case measure=>simp[intOf];omega
   ·have HN:Hid (l.any q=false):=by show _=_;rw[HA.out,List.drop_of_length_le (by omega)];rfl
    have hkl:k=l.length:=by omega
    clear HA;go_wp2_with fail;go_ret;exact⟨-1,rfl,by rw[HN.out];rfl,BL.out⟩
 ·subst hl0
  subst hv1;clear HC hK;go_enter func178,ntmps178;go_wp2_with fail
  go_loopw [8] (fun i wr=>i=.int .i64 0∧wr=w) (fun _ _=>0)
  case atStart=>exact⟨rfl,rfl⟩
  case round =>
   obtain⟨rfl,rfl⟩:=hrel;go_wp2_with fail;go_ret;exact⟨-1,rfl,rfl,Below.refl _ _⟩
theorem z2c (g:FuncId) (lb:Array Value) (q:Mk.At→Bool) (eg:∀ args w,(callFunc g args).run prog w=.ok (.enter g args) w) (l:List Mk.At) (v:Value) (K:Nat→Prop) (w:World) (hv:AtsV w K v l) (hK:∀ b,K b→b < w.heap.size) (hl:l.length≤33554432) (hq:q5m g lb q l w) :
  Calls prog 134 #[v,.func (.func g) #[] lb] w fun e w'=>e=.returned (.bool (l.any q))∧Below w.heap.size w w':=by
 have HI:=Ld (q73 g lb q eg l v K w hv hK hl hq);clear hq hK hv;go_enter func134,ntmps134;go_wp2_with fail;refine HI.out.mono ?_;rintro e w1 ⟨i,rfl,hi,hb⟩;have HB:=Ld hb;have H2:=Ld hi;clear hb hi;go_wp2_with fail;go_ret;exact⟨Z8 H2.out,HB.out⟩
end Go.Proofs.YtjonkbdldebkiaaGreatDoor
