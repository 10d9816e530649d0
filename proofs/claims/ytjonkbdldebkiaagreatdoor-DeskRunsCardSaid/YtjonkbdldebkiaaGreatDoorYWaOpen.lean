/- An argument that is acts, as it reads, is acts in memory. No program in sight but its types. -/
import Derived.Test.YtjonkbdldebkiaaGreatDoorYWeOpen
import Derived.Test.YtjonkbdldebkiaaGreatDoorYWxO
set_option linter.unusedVariables false
set_option linter.unusedSimpArgs false
set_option maxRecDepth 20000
namespace Go.Proofs.YtjonkbdldebkiaaGreatDoor
open Go.Proofs.Tryz Go.RowKit Go.ChangeShapes
section
variable {H : Type} {enc : TypeId × Value→H} {w : World} {base : Nat} {spare : Nat→Bool} {held : Bool}
theorem cacts:prog.cellsOf 36=3:=by kernel_rfl
theorem q2g:∀ (elems:List (DataW H × List MemPlace)) (n:Nat) (a:Addr) (j:Nat),(∀ i,i < elems.length→(w.cells? base (a.add ((j + i) * 3)) 3).bind (DataW.trod enc prog w base spare held n 36)=elems[i]?) →
  ∃ l:List Fd.Ac,l.length=elems.length∧(∀ (i:Nat) (v:Value),(z0v l)[i]? = some v→w.cell? (a.add (j * 3 + i))=some v)
 | [],_,_,_,_=>⟨[],rfl,fun i v h=>by simp[z0v] at h⟩
 | e :: r,n,a,j,h=>by
  obtain⟨l,h1,h2⟩:=q2g r n a (j + 1) (fun i hi=>by have:=h (i + 1) (by simp;omega);rw[show j + (i + 1)=j + 1 + i by omega] at this;simpa using this);have h0:=h 0 (by simp);simp only [Nat.add_zero,List.getElem?_cons_zero,Option.bind_eq_some_iff] at h0;obtain⟨cs,hc,ht⟩:=h0;obtain⟨hl,hcs⟩:=cells_at hc;obtain⟨xs,m,_,hx,hn,hxl,hf⟩:=DataW.trod_struct underlying36 ht;obtain⟨v0,v1,v2,rfl⟩:∃ v0 v1 v2,cs=[v0,v1,v2]:=by
   match cs,hl with
   | [v0,v1,v2],_=>exact⟨_,_,_,rfl⟩
  obtain⟨y0,y1,y2,rfl⟩:∃ y0 y1 y2,xs=[y0,y1,y2]:=by
   match xs,hxl with
   | [y0,y1,y2],_=>exact⟨_,_,_,rfl⟩
  have k0:=hf 0 _ rfl;have k1:=hf 1 _ rfl;have k2:=hf 2 _ rfl;simp only [cstr,cint,List.drop_zero,List.drop_succ_cons,List.take_succ_cons,List.take_zero,List.getElem?_cons_zero,List.getElem?_cons_succ] at k0 k1 k2;obtain⟨s0,e0,rfl,_⟩:=DataW.trod_int underlying3 k0;obtain⟨s1,e1,rfl,_⟩:=DataW.trod_string underlying9 k1;obtain⟨s2,e2,rfl,_⟩:=DataW.trod_string underlying9 k2;injection e0 with e0;injection e1 with e1;injection e2 with e2;subst e0;subst e1;subst e2;refine⟨⟨s0,s1.data.toList,s2.data.toList⟩ :: l,by simp[h1],?_⟩;intro i v hv;have e:z0v (⟨s0,s1.data.toList,s2.data.toList⟩ :: l)=[.int .i64 s0,.string s1,.string s2]++z0v l:=rfl;rw[e] at hv
  match i,hv with
  | 0,hv=>have q:=hcs 0 v hv;rw[Addr.add_add] at q;exact q
  | 1,hv=>have q:=hcs 1 v hv;rw[Addr.add_add] at q;exact q
  | 2,hv=>have q:=hcs 2 v hv;rw[Addr.add_add] at q;exact q
  | i + 3,hv =>
   have q:=h2 i v (by simpa using hv);rw[show j * 3 + (i + 3)=(j + 1) * 3 + i by omega];exact q
theorem j6l {n:Nat} {c:Value} {x:DataW H × List MemPlace} (h:DataW.trod enc prog w base spare held n 22 [c]=some x):∃ l,z7g w (fun b=>b < w.heap.size) c l:=by
 rcases DataW.trod_slice underlying22 h with ⟨hc,hx⟩ | ⟨a,len,cap,elems,rest,m,_,hc,hx,_,hlc,hcm,hel,hcells,_⟩
 ·injection hc with hc
  subst hc;exact⟨[],⟨none,0,rfl,.inl rfl,Lr,Nat.zero_le _⟩⟩
 ·injection hc with hc
  subst hc;rw[cacts] at hcells;obtain⟨l,h1,h2⟩:=q2g elems m a 0 (fun i hi=>by rw[Nat.zero_add];exact hcells i (by omega));exact⟨l,⟨some a,cap,by rw[h1,hel],rowAt_of (fun i v q=>by have:=h2 i v q;rwa [Nat.zero_mul,Nat.zero_add] at this),by omega,by omega⟩⟩
end
end Go.Proofs.YtjonkbdldebkiaaGreatDoor
