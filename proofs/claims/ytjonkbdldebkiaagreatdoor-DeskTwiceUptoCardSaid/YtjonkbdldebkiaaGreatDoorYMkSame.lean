/- Contracts of the reference's SameAttrs and SameNodes: are attributes, and trees, the same. Condition: at most 33554432 nodes, attributes and letters. -/
import Derived.Test.YtjonkbdldebkiaaGreatDoorYMkClean5
import Derived.RegionTactic
import Derived.Laws.StructEq
set_option linter.unusedVariables false
set_option linter.unusedSimpArgs false
namespace Go.Proofs.YtjonkbdldebkiaaGreatDoor
open Go.RowKit
theorem AtsV.get {w:World} {K:Nat→Prop} {v:Value} {l:List Mk.At} (h:AtsV w K v l):∃ ao cap,v=.slice ao l.length cap∧l.length≤maxLen∧∀ k (hk:k < l.length),∃ g o,ao=some ⟨g,o,none⟩∧K g∧w.cell? ⟨g,o + k * 2,none⟩=some (.string (st l[k].n))∧w.cell? ⟨g,o + k * 2 + 1,none⟩=some (.string (st l[k].v)):=by
 obtain⟨ao,cap,h1,h2,_,h4⟩:=h;refine⟨ao,cap,h1,h4,fun k hk=>?_⟩;obtain⟨e1,e2⟩:=q0i l k hk
 rcases h2 with h2 | ⟨g,o,h3,h5,h6⟩
 ·rw[h2] at e1;simp at e1
 ·rw[Nat.mul_comm k 2]
  exact⟨g,o,h3,h5,h6 _ _ e1,by rw[Nat.add_assoc];exact h6 _ _ e2⟩
theorem FoV.get {w:World} {K:Nat→Prop} {v:Value} {f:Mk.Fo} (h:FoV w K v f):∃ ao cap,v=.slice ao f.len cap∧f.len≤maxLen∧∀ k n a t kk r,f.drop k=.node n a t kk r→∃ g o aoa capa aok capk,ao=some ⟨g,o,none⟩∧K g∧w.cell? ⟨g,o + k * 4,none⟩=some (.string (st n))∧w.cell? ⟨g,o + k * 4 + 1,none⟩=some (.slice aoa a.length capa)∧w.cell? ⟨g,o + k * 4 + 2,none⟩=some (.string (st t))∧w.cell? ⟨g,o + k * 4 + 3,none⟩=some (.slice aok kk.len capk)∧AtsV w K (.slice aoa a.length capa) a∧FoV w K (.slice aok kk.len capk) kk:=by
 obtain⟨g,o,cap,h1,h2,h3⟩:=h.at_
 rcases h1 with ⟨h1,hK⟩ | ⟨ao,h1,hn⟩
 ·refine⟨_,cap,h1,h2,fun k n a t kk r hd=>?_⟩
  obtain⟨va,vk,c0,c1,c2,c3,hva,hvk⟩:=h3 k n a t kk r hd;obtain⟨aoa,capa,hva1,_⟩:=id hva;obtain⟨aok,capk,xsk,hvk1,_⟩:=id hvk;subst hva1;subst hvk1;exact⟨g,o,aoa,capa,aok,capk,rfl,hK,c0,c1,c2,c3,hva,hvk⟩
 ·subst hn
  refine⟨ao,cap,h1,h2,fun k n a t kk r hd=>?_⟩
  cases k with
  | zero=>rw[Mk.Fo.drop_zero] at hd;cases hd
  | succ k=>cases hd
theorem take_same {α:Type _} (l m:List α) (k:Nat) (h1:k < l.length) (h2:k < m.length) (h:l.take k=m.take k):l.take (k + 1)=m.take (k + 1)↔l[k]=m[k]:=by
 rw[List.take_succ_eq_append_getElem h1,List.take_succ_eq_append_getElem h2,h];exact⟨fun e=>by simpa using (List.append_inj' e rfl).2,fun e=>by rw[e]⟩
end Go.Proofs.YtjonkbdldebkiaaGreatDoor
