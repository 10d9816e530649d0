/- An argument of nodes, as it reads, is a tree in memory, no larger than what is read. No program in sight but its types. -/
import Derived.Test.YtagleefekmdldaaGreatDoorRows
import Derived.Test.YtagleefekmdldaaGreatDoorYMkTree2
import Derived.DataElems
import Derived.ChangeArms
set_option linter.unusedVariables false
set_option linter.unusedSimpArgs false
set_option maxRecDepth 20000
namespace Go.Proofs.YtagleefekmdldaaGreatDoor
open Go.Proofs.Tryz Go.RowKit Go.ChangeShapes
section
variable {H : Type} {enc : TypeId × Value→H} {w : World} {base : Nat} {spare : Nat→Bool} {held : Bool}
theorem cells_at {a:Addr} {n:Nat} {cs:List Value} (h:w.cells? base a n=some cs):cs.length=n∧∀ (i:Nat) (v:Value),cs[i]? = some v→w.cell? (a.add i)=some v:=by
 obtain⟨_,h1,h2⟩:=World.cells?_some h;refine⟨h1,fun i v hv=>?_⟩;have hi:i < cs.length:=by
  rcases Nat.lt_or_ge i cs.length with q | q
  ·exact q
  ·rw[List.getElem?_eq_none q] at hv;cases hv
 rw[h2 i (by omega),hv]
theorem z9g {a:Addr} {n:Nat} {q:List MemPlace} (hz:w.noneFrozen (MemPlace.row a n++q)):∀ i,i < n→w.frozen? ⟨a.block,a.off + i,none⟩=false:=fun i hi =>
 hz _ _ (List.mem_append_left _ (List.mem_map.2 ⟨i,List.mem_range.2 hi,rfl⟩))
theorem q9o {a:Addr} {xs:List Value} (h:∀ (i:Nat) (v:Value),xs[i]? = some v→w.cell? (a.add i)=some v) (hf:∀ i,i < xs.length→w.frozen? ⟨a.block,a.off + i,none⟩=false):z1v w (fun b=>b < w.heap.size) (some a) xs:=by
 cases xs with
 | nil=>exact .inl rfl
 | cons x r =>
  have h0:=h 0 x rfl;rw[Addr.add_zero'] at h0;have hlt:=World.block_lt_of_cell? w _ h0;have hs:a.spot=none:=by
   unfold World.cell? at h0
   split at h0
   ·split at h0
    ·cases h0
    ·rename_i hsp;cases hq:a.spot with
     | none=>rfl
     | some _=>rw[hq] at hsp;simp at hsp
   ·cases h0
  obtain⟨g,o,sp⟩:=a;have hs:sp=none:=hs;subst hs;refine .inr ⟨g,o,rfl,hlt,fun i v q=>?_,hf⟩;have:=h i v q
  rwa [Addr.add_lit] at this
theorem c9:prog.cellsOf 9=1:=by kernel_rfl
theorem c58:prog.cellsOf 73=2:=by kernel_rfl
theorem c52:prog.cellsOf 38=4:=by kernel_rfl
theorem c50:prog.cellsOf 36=1:=by kernel_rfl
theorem c22:prog.cellsOf 22=1:=by kernel_rfl
theorem q2l:∀ (elems:List (DataW H × List MemPlace)) (n:Nat) (a:Addr) (j:Nat),(∀ i,i < elems.length→(w.cells? base (a.add ((j + i) * 2)) 2).bind (DataW.trod enc prog w base spare held n 73)=elems[i]?) →
  ∃ l:List Mk.At,l.length=elems.length∧(∀ (i:Nat) (v:Value),(Z5 l)[i]? = some v→w.cell? (a.add (j * 2 + i))=some v)∧Mk.Fo.atB l≤Rows.uptoBulkAll (elems.map (·.1))
 | [],_,_,_,_=>⟨[],rfl,fun i v h=>by simp[Z5] at h,by simp[Mk.Fo.atB,Rows.uptoBulkAll]⟩
 | e :: r,n,a,j,h=>by
  obtain⟨l,h1,h2,h3⟩:=q2l r n a (j + 1) (fun i hi=>by have:=h (i + 1) (by simp;omega);rw[show j + (i + 1)=j + 1 + i by omega] at this;simpa using this);have h0:=h 0 (by simp);simp only [Nat.add_zero,List.getElem?_cons_zero,Option.bind_eq_some_iff] at h0;obtain⟨cs,hc,ht⟩:=h0;obtain⟨hl,hcs⟩:=cells_at hc;obtain⟨xs,m,_,hx,hn,hxl,hf⟩:=DataW.trod_struct underlying73 ht;obtain⟨v0,v1,rfl⟩:∃ v0 v1,cs=[v0,v1]:=by
   match cs,hl with
   | [v0,v1],_=>exact⟨_,_,rfl⟩
  obtain⟨y0,y1,rfl⟩:∃ y0 y1,xs=[y0,y1]:=by
   match xs,hxl with
   | [y0,y1],_=>exact⟨_,_,rfl⟩
  have k0:=hf 0 _ rfl;have k1:=hf 1 _ rfl;simp only [c9,List.drop_zero,List.drop_succ_cons,List.take_succ_cons,List.take_zero,List.getElem?_cons_zero,List.getElem?_cons_succ] at k0 k1;obtain⟨s0,e0,rfl,_⟩:=DataW.trod_string underlying9 k0;obtain⟨s1,e1,rfl,_⟩:=DataW.trod_string underlying9 k1;injection e0 with e0;injection e1 with e1;subst e0;subst e1;refine⟨⟨s0.data.toList,s1.data.toList⟩ :: l,by simp[h1],?_,?_⟩
  ·intro i v hv
   have e:Z5 (⟨s0.data.toList,s1.data.toList⟩ :: l)=[.string s0,.string s1]++Z5 l:=rfl;rw[e] at hv
   match i,hv with
   | 0,hv=>have q:=hcs 0 v hv;rw[Addr.add_add] at q;exact q
   | 1,hv=>have q:=hcs 1 v hv;rw[Addr.add_add] at q;exact q
   | i + 2,hv =>
    have q:=h2 i v (by simpa using hv);rw[show j * 2 + (i + 2)=(j + 1) * 2 + i by omega];exact q
  ·rw[hx]
   simp only [List.map_cons,List.map_nil,Rows.uptoBulkAll,Rows.uptoBulk];have e:Mk.Fo.atB (⟨s0.data.toList,s1.data.toList⟩ :: l)=1 + s0.data.toList.length + s1.data.toList.length + Mk.Fo.atB l:=by simp[Mk.Fo.atB]
   rw[e];omega
theorem j5p {n:Nat} {c:Value} {x:DataW H × List MemPlace} (h:DataW.trod enc prog w base spare held n 36 [c]=some x) (hz:w.noneFrozen x.2):∃ l,AtsV w (fun b=>b < w.heap.size) c l∧Mk.Fo.atB l≤Rows.uptoBulk x.1:=by
 rcases DataW.trod_slice underlying36 h with ⟨hc,hx⟩ | ⟨a,len,cap,elems,rest,m,_,hc,hx,_,hlc,hcm,hel,hcells,_⟩
 ·injection hc with hc
  subst hc;exact⟨[],AtsV.nil _ _,Nat.zero_le _⟩
 ·injection hc with hc
  subst hc;rw[c58] at hcells;have hz2:=hz;rw[hx] at hz2;simp only [c58] at hz2;obtain⟨l,h1,h2,h3⟩:=q2l elems m a 0 (fun i hi=>by rw[Nat.zero_add];exact hcells i (by omega));refine⟨l,⟨some a,cap,by rw[h1,hel],q9o (fun i v q=>by have:=h2 i v q;rwa [Nat.zero_mul,Nat.zero_add] at this) (fun i hi=>z9g hz2 i (by rw[z04] at hi;omega)),by omega,by omega⟩,?_⟩;rw[hx];simp only [Rows.uptoBulk];omega
theorem q1o (n:Nat) (ih:∀ m,m < n→∀ (c:Value) (x:DataW H × List MemPlace),DataW.trod enc prog w base spare held m 22 [c]=some x→w.noneFrozen x.2→∃ f,FoV w (fun b=>b < w.heap.size) c f∧f.bulk≤Rows.uptoBulk x.1):∀ (elems:List (DataW H × List MemPlace)) (a:Addr) (j:Nat),(∀ e ∈ elems,w.noneFrozen e.2)→(∀ i,i < elems.length→(w.cells? base (a.add ((j + i) * 4)) 4).bind (DataW.trod enc prog w base spare held n 38)=elems[i]?) →
  ∃ (f:Mk.Fo) (xs:List Value),f.len=elems.length∧Y0 w (fun b=>b < w.heap.size) f xs∧(∀ (i:Nat) (v:Value),xs[i]? = some v→w.cell? (a.add (j * 4 + i))=some v)∧f.bulk≤Rows.uptoBulkAll (elems.map (·.1))
 | [],_,_,_,_=>⟨.nil,[],rfl,rfl,fun i v h=>by simp at h,by simp[Mk.Fo.bulk,Rows.uptoBulkAll]⟩
 | e :: r,a,j,hz,h=>by
  obtain⟨f,ys,h1,h2,h3,h4⟩:=q1o n ih r a (j + 1) (fun x q=>hz x (List.mem_cons_of_mem _ q)) (fun i hi=>by have:=h (i + 1) (by simp;omega);rw[show j + (i + 1)=j + 1 + i by omega] at this;simpa using this);have h0:=h 0 (by simp);simp only [Nat.add_zero,List.getElem?_cons_zero,Option.bind_eq_some_iff] at h0;obtain⟨cs,hc,ht⟩:=h0;obtain⟨hl,hcs⟩:=cells_at hc;obtain⟨xs,m,hm,hx,hn,hxl,hf⟩:=DataW.trod_struct underlying38 ht;obtain⟨v0,v1,v2,v3,rfl⟩:∃ v0 v1 v2 v3,cs=[v0,v1,v2,v3]:=by
   match cs,hl with
   | [v0,v1,v2,v3],_=>exact⟨_,_,_,_,rfl⟩
  obtain⟨y0,y1,y2,y3,rfl⟩:∃ y0 y1 y2 y3,xs=[y0,y1,y2,y3]:=by
   match xs,hxl with
   | [y0,y1,y2,y3],_=>exact⟨_,_,_,_,rfl⟩
  have k0:=hf 0 _ rfl;have k1:=hf 1 _ rfl;have k2:=hf 2 _ rfl;have k3:=hf 3 _ rfl;simp only [c9,c50,c22,List.drop_zero,List.drop_succ_cons,List.take_succ_cons,List.take_zero,List.getElem?_cons_zero,List.getElem?_cons_succ] at k0 k1 k2 k3;obtain⟨s0,e0,rfl,_⟩:=DataW.trod_string underlying9 k0;obtain⟨s2,e2,rfl,_⟩:=DataW.trod_string underlying9 k2;injection e0 with e0;injection e2 with e2;subst e0;subst e2;have hze:=hz e List.mem_cons_self;rw[hx] at hze;obtain⟨l,hal,hab⟩:=j5p k1 (fun b o q=>hze b o (by simp[q]));obtain⟨kk,hkk,hkb⟩:=ih m (by omega) v3 y3 k3 (fun b o q=>hze b o (by simp[q]));obtain⟨ao3,cap3,xs3,hv3,hr3,hc3,hm3⟩:=hkk;subst hv3;refine⟨.node s0.data.toList l s2.data.toList kk f,[.string s0,v1,.string s2,.slice ao3 kk.len cap3]++ys,by simp[Mk.Fo.len,h1],⟨v1,ao3,cap3,xs3,ys,rfl,hal,hr3,hm3,hc3,h2⟩,?_,?_⟩
  ·intro i v hv
   match i,hv with
   | 0,hv=>have q:=hcs 0 v hv;rw[Addr.add_add] at q;exact q
   | 1,hv=>have q:=hcs 1 v hv;rw[Addr.add_add] at q;exact q
   | 2,hv=>have q:=hcs 2 v hv;rw[Addr.add_add] at q;exact q
   | 3,hv=>have q:=hcs 3 v hv;rw[Addr.add_add] at q;exact q
   | i + 4,hv =>
    have q:=h3 i v (by simpa using hv);rw[show j * 4 + (i + 4)=(j + 1) * 4 + i by omega];exact q
  ·rw[hx]
   simp only [List.map_cons,List.map_nil,Rows.uptoBulkAll,Rows.uptoBulk];have e:Mk.Fo.bulk (.node s0.data.toList l s2.data.toList kk f)=1 + s0.data.toList.length + s2.data.toList.length + Mk.Fo.atB l + Mk.Fo.bulk kk + Mk.Fo.bulk f:=rfl;rw[e];omega
theorem j1y:∀ (n:Nat) (c:Value) (x:DataW H × List MemPlace),DataW.trod enc prog w base spare held n 22 [c]=some x→w.noneFrozen x.2→∃ f,FoV w (fun b=>b < w.heap.size) c f∧f.bulk≤Rows.uptoBulk x.1:=by
 intro n
 induction n using Nat.strongRecOn with
 | ind n ih =>
  intro c x h hz
  rcases DataW.trod_slice underlying22 h with ⟨hc,hx⟩ | ⟨a,len,cap,elems,rest,m,hm,hc,hx,_,hlc,hcm,hel,hcells,_⟩
  ·injection hc with hc
   subst hc;exact⟨.nil,⟨none,0,[],rfl,.inl rfl,rfl,Nat.zero_le _⟩,Nat.zero_le _⟩
  ·injection hc with hc
   subst hc;rw[c52] at hcells;rw[hx] at hz;simp only [c52] at hz;obtain⟨f,xs,h1,h2,h3,h4⟩:=q1o m (fun m' hm'=>ih m' (by omega)) elems a 0 (fun e q b o q2=>hz b o (List.mem_append_right _ (List.mem_flatMap.2 ⟨e,List.mem_append_left _ q,q2⟩))) (fun i hi=>by rw[Nat.zero_add];exact hcells i (by omega));refine⟨f,⟨some a,cap,xs,by rw[h1,hel],q9o (fun i v q=>by have:=h3 i v q;rwa [Nat.zero_mul,Nat.zero_add] at this) (fun i hi=>z9g hz i (by rw[h2.length] at hi;omega)),h2,by omega⟩,?_⟩;rw[hx];simp only [Rows.uptoBulk];omega
end
end Go.Proofs.YtagleefekmdldaaGreatDoor
