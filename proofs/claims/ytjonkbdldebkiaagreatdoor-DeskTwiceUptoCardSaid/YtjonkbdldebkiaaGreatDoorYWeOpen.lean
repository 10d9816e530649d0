/- An argument that is a shelf, as it reads, is entries and ids in memory, no larger than what is read. No program in sight but its types. -/
import Derived.Test.YtjonkbdldebkiaaGreatDoorRows
import Derived.Test.YtjonkbdldebkiaaGreatDoorYWeA
import Derived.Test.YtjonkbdldebkiaaGreatDoorYUrlD
import Derived.DataElems
import Derived.ChangeArms
set_option linter.unusedVariables false
set_option linter.unusedSimpArgs false
set_option maxRecDepth 20000
namespace Go.Proofs.YtjonkbdldebkiaaGreatDoor
open Go.Proofs.Tryz Go.RowKit Go.ChangeShapes
def enB (x:Fd.En):Nat:=1 + x.id.length + x.ti.length + x.li.length + x.ht.length
def entB (l:List Fd.En):Nat:=(l.map enB).sum
def strB (l:List Fd.Bs):Nat:=(l.map fun x=>1 + x.length).sum
section
variable {H : Type} {enc : TypeId × Value→H} {w : World} {base : Nat} {spare : Nat→Bool} {held : Bool}
theorem cells_at {a:Addr} {n:Nat} {cs:List Value} (h:w.cells? base a n=some cs):cs.length=n∧∀ (i:Nat) (v:Value),cs[i]? = some v→w.cell? (a.add i)=some v:=by
 obtain⟨_,h1,h2⟩:=World.cells?_some h;refine⟨h1,fun i v hv=>?_⟩;have hi:i < cs.length:=by
  rcases Nat.lt_or_ge i cs.length with q | q
  ·exact q
  ·rw[List.getElem?_eq_none q] at hv;cases hv
 rw[h2 i (by omega),hv]
theorem j8m {a:Addr} {xs:List Value} (h:∀ (i:Nat) (v:Value),xs[i]? = some v→w.cell? (a.add i)=some v):z19 w (fun b=>b < w.heap.size) (some a) xs:=by
 cases xs with
 | nil=>exact .inl rfl
 | cons x r =>
  have h0:=h 0 x rfl;rw[Addr.add_zero'] at h0;have hlt:=World.block_lt_of_cell? w _ h0;have hs:a.spot=none:=by
   unfold World.cell? at h0
   split at h0
   ·split at h0
    ·cases h0
    ·rename_i hsp;cases hq:a.spot with
     | none=>rfl
     | some _=>rw[hq] at hsp;simp at hsp
   ·cases h0
  obtain⟨g,o,sp⟩:=a;have hs:sp=none:=hs;subst hs;refine .inr ⟨g,o,rfl,hlt,fun i v q=>?_⟩;have:=h i v q
  rwa [Addr.add_lit] at this
theorem cstr:prog.cellsOf 9=1:=by kernel_rfl
theorem cint:prog.cellsOf 3=1:=by kernel_rfl
theorem cent:prog.cellsOf 44=5:=by kernel_rfl
theorem q2g:∀ (elems:List (DataW H × List MemPlace)) (n:Nat) (a:Addr) (j:Nat),(∀ i,i < elems.length→(w.cells? base (a.add ((j + i) * 5)) 5).bind (DataW.trod enc prog w base spare held n 44)=elems[i]?) →
  ∃ l:List Fd.En,l.length=elems.length∧(∀ (i:Nat) (v:Value),(y9 l)[i]? = some v→w.cell? (a.add (j * 5 + i))=some v)∧entB l≤Rows.uptoBulkAll (elems.map (·.1))∧∀ x ∈ l,(Lit.int .i64 x.at_).wf=true
 | [],_,_,_,_=>⟨[],rfl,fun i v h=>by simp[y9] at h,by simp[entB,Rows.uptoBulkAll],fun x h=>by cases h⟩
 | e :: r,n,a,j,h=>by
  obtain⟨l,h1,h2,h3,h4⟩:=q2g r n a (j + 1) (fun i hi=>by have:=h (i + 1) (by simp;omega);rw[show j + (i + 1)=j + 1 + i by omega] at this;simpa using this);have h0:=h 0 (by simp);simp only [Nat.add_zero,List.getElem?_cons_zero,Option.bind_eq_some_iff] at h0;obtain⟨cs,hc,ht⟩:=h0;obtain⟨hl,hcs⟩:=cells_at hc;obtain⟨xs,m,_,hx,hn,hxl,hf⟩:=DataW.trod_struct underlying44 ht;obtain⟨v0,v1,v2,v3,v4,rfl⟩:∃ v0 v1 v2 v3 v4,cs=[v0,v1,v2,v3,v4]:=by
   match cs,hl with
   | [v0,v1,v2,v3,v4],_=>exact⟨_,_,_,_,_,rfl⟩
  obtain⟨y0,y1,y2,y3,y4,rfl⟩:∃ y0 y1 y2 y3 y4,xs=[y0,y1,y2,y3,y4]:=by
   match xs,hxl with
   | [y0,y1,y2,y3,y4],_=>exact⟨_,_,_,_,_,rfl⟩
  have k0:=hf 0 _ rfl;have k1:=hf 1 _ rfl;have k2:=hf 2 _ rfl;have k3:=hf 3 _ rfl;have k4:=hf 4 _ rfl;simp only [cstr,cint,List.drop_zero,List.drop_succ_cons,List.take_succ_cons,List.take_zero,List.getElem?_cons_zero,List.getElem?_cons_succ] at k0 k1 k2 k3 k4;obtain⟨s0,e0,rfl,_⟩:=DataW.trod_string underlying9 k0;obtain⟨s1,e1,rfl,_⟩:=DataW.trod_string underlying9 k1;obtain⟨s2,e2,rfl,_⟩:=DataW.trod_string underlying9 k2;obtain⟨s3,e3,rfl,wf3⟩:=DataW.trod_int underlying3 k3;obtain⟨s4,e4,rfl,_⟩:=DataW.trod_string underlying9 k4;injection e0 with e0;injection e1 with e1;injection e2 with e2;injection e3 with e3;injection e4 with e4;subst e0;subst e1;subst e2;subst e3;subst e4;refine⟨⟨s0.data.toList,s1.data.toList,s2.data.toList,s3,s4.data.toList⟩ :: l,by simp[h1],?_,?_,?_⟩
  ·intro i v hv
   have e:y9 (⟨s0.data.toList,s1.data.toList,s2.data.toList,s3,s4.data.toList⟩ :: l)=[.string s0,.string s1,.string s2,.int .i64 s3,.string s4]++y9 l:=rfl;rw[e] at hv
   match i,hv with
   | 0,hv=>have q:=hcs 0 v hv;rw[Addr.add_add] at q;exact q
   | 1,hv=>have q:=hcs 1 v hv;rw[Addr.add_add] at q;exact q
   | 2,hv=>have q:=hcs 2 v hv;rw[Addr.add_add] at q;exact q
   | 3,hv=>have q:=hcs 3 v hv;rw[Addr.add_add] at q;exact q
   | 4,hv=>have q:=hcs 4 v hv;rw[Addr.add_add] at q;exact q
   | i + 5,hv =>
    have q:=h2 i v (by simpa using hv);rw[show j * 5 + (i + 5)=(j + 1) * 5 + i by omega];exact q
  ·rw[hx]
   simp only [List.map_cons,List.map_nil,Rows.uptoBulkAll,Rows.uptoBulk];have e:entB (⟨s0.data.toList,s1.data.toList,s2.data.toList,s3,s4.data.toList⟩ :: l)=(1 + s0.data.toList.length + s1.data.toList.length + s2.data.toList.length + s4.data.toList.length) + entB l:=rfl;rw[e];omega
  ·intro x hxm
   rcases List.mem_cons.1 hxm with rfl | q
   ·exact wf3
   ·exact h4 x q
theorem j8r {n:Nat} {c:Value} {x:DataW H × List MemPlace} (h:DataW.trod enc prog w base spare held n 23 [c]=some x):∃ l,z18 w (fun b=>b < w.heap.size) c l∧entB l≤Rows.uptoBulk x.1∧∀ x ∈ l,(Lit.int .i64 x.at_).wf=true:=by
 rcases DataW.trod_slice underlying23 h with ⟨hc,hx⟩ | ⟨a,len,cap,elems,rest,m,_,hc,hx,_,hlc,hcm,hel,hcells,_⟩
 ·injection hc with hc
  subst hc;exact⟨[],z18.nil _ _,Nat.zero_le _,fun x h=>by cases h⟩
 ·injection hc with hc
  subst hc;rw[cent] at hcells;obtain⟨l,h1,h2,h3,h4⟩:=q2g elems m a 0 (fun i hi=>by rw[Nat.zero_add];exact hcells i (by omega));refine⟨l,⟨some a,cap,by rw[h1,hel],j8m (fun i v q=>by have:=h2 i v q;rwa [Nat.zero_mul,Nat.zero_add] at this),by omega,by omega⟩,?_,h4⟩;rw[hx];simp only [Rows.uptoBulk];omega
theorem q89:∀ (elems:List (DataW H × List MemPlace)) (n:Nat) (a:Addr) (j:Nat),(∀ i,i < elems.length→(w.cells? base (a.add ((j + i) * 1)) 1).bind (DataW.trod enc prog w base spare held n 9)=elems[i]?) →
  ∃ l:List Fd.Bs,l.length=elems.length∧(∀ (i:Nat) (v:Value),(Q8 l)[i]? = some v→w.cell? (a.add (j + i))=some v)∧strB l≤Rows.uptoBulkAll (elems.map (·.1))
 | [],_,_,_,_=>⟨[],rfl,fun i v h=>by simp[Q8] at h,by simp[strB,Rows.uptoBulkAll]⟩
 | e :: r,n,a,j,h=>by
  obtain⟨l,h1,h2,h3⟩:=q89 r n a (j + 1) (fun i hi=>by have:=h (i + 1) (by simp;omega);rw[show j + (i + 1)=j + 1 + i by omega] at this;simpa using this);have h0:=h 0 (by simp);simp only [Nat.add_zero,Nat.mul_one,List.getElem?_cons_zero,Option.bind_eq_some_iff] at h0;obtain⟨cs,hc,ht⟩:=h0;obtain⟨hl,hcs⟩:=cells_at hc;obtain⟨s0,rfl,rfl,_⟩:=DataW.trod_string underlying9 ht;refine⟨s0.data.toList :: l,by simp[h1],?_,?_⟩
  ·intro i v hv
   have e:Q8 (s0.data.toList :: l)=[.string s0]++Q8 l:=rfl;rw[e] at hv
   match i,hv with
   | 0,hv=>have q:=hcs 0 v hv;rw[Addr.add_add] at q;exact q
   | i + 1,hv =>
    have q:=h2 i v (by simpa using hv);rw[show j + (i + 1)=j + 1 + i by omega];exact q
  ·simp only [List.map_cons,Rows.uptoBulkAll,Rows.uptoBulk]
   have e:strB (s0.data.toList :: l)=(1 + s0.data.toList.length) + strB l:=rfl;rw[e];omega
theorem open_strs {n:Nat} {c:Value} {x:DataW H × List MemPlace} (h:DataW.trod enc prog w base spare held n 24 [c]=some x):∃ l,z0n w (fun b=>b < w.heap.size) c l∧strB l≤Rows.uptoBulk x.1:=by
 rcases DataW.trod_slice underlying24 h with ⟨hc,hx⟩ | ⟨a,len,cap,elems,rest,m,_,hc,hx,_,hlc,hcm,hel,hcells,_⟩
 ·injection hc with hc
  subst hc;exact⟨[],z0n.nil _ _,Nat.zero_le _⟩
 ·injection hc with hc
  subst hc;rw[cstr] at hcells;obtain⟨l,h1,h2,h3⟩:=q89 elems m a 0 (fun i hi=>by rw[Nat.zero_add];exact hcells i (by omega));refine⟨l,⟨some a,cap,by rw[h1,hel],by omega,j8m (fun i v q=>by have:=h2 i v q;rwa [Nat.zero_add] at this),by omega⟩,?_⟩;rw[hx];simp only [Rows.uptoBulk];omega
end
end Go.Proofs.YtjonkbdldebkiaaGreatDoor
