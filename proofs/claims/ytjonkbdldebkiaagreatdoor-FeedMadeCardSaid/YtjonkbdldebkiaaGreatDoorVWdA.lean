/- Contracts of the program's leap, long, ahead. Condition: years from 0 to 100000. -/
import Derived.Test.YtjonkbdldebkiaaGreatDoorVWdPad
import Derived.Test.YtjonkbdldebkiaaGreatDoorVShelf
import Derived.Test.YtjonkbdldebkiaaGreatDoorVKit
import Derived.Test.YtjonkbdldebkiaaGreatDoorVUrlPlain
set_option linter.unusedVariables false
set_option linter.unusedSimpArgs false
set_option maxHeartbeats 4000000
namespace Fd
theorem lpB_is (y:Int):lpB y=((decide (y % 4=0) && !decide (y % 100=0)) || decide (y % 400=0)):=by
 unfold lpB
 by_cases h1:y % 4=0 <;> by_cases h2:y % 100=0 <;> by_cases h3:y % 400=0 <;> simp[h1,h2,h3]
end Fd
namespace Go.Proofs.YtjonkbdldebkiaaGreatDoor
open Go.Proofs.Tryz Go.RowKit
theorem q7k {a b:Int} (h:0≤a):a.tmod b=a % b:=Int.tmod_eq_emod_of_nonneg h
theorem q8z {a b:Int} (h:0≤a):a.tdiv b=a / b:=Int.tdiv_eq_ediv_of_nonneg h
theorem dt_leap (y:Int) (hy:0≤y) (w:World) :
  Calls prog 113 #[.int .i64 y] w fun e w'=>e=.returned (.bool (Fd.lpB y))∧w'=w:=by
 have HL:=Ld (Fd.lpB_is y);go_enter func113,ntmps113;go_wp2_with fail
 all_goals (go_ret;refine⟨Z8 ?_,rfl⟩;rw[HL.out];first | rfl | (simp[*];done) | (by_cases q:y % 400=0 <;> simp[*]))
theorem j5g (y m:Int) (hy:0≤y) (h1:1≤m) (h2:m≤12) (w:World) :
  Calls prog 65 #[.int .i64 y,.int .i64 m] w fun e w'=>e=.returned (.int .i64 (Fd.long y m))∧Below w.heap.size w w':=by
 have hal:=fun o=>(Below.refl w.heap.size w).alloc (Lr) o
 have HAL:=Ld hal;have HLP:=Ld (fun W=>dt_leap y hy W);have e2:Fd.long y 2=28 + if Fd.lpB y then 1 else 0:=rfl
 have HE:=Ld e2;clear hal hy e2
 rcases (by omega:m=1∨m=2∨m=3∨m=4∨m=5∨m=6∨m=7∨m=8∨m=9∨m=10∨m=11∨m=12) with h | h | h | h | h | h | h | h | h | h | h | h
 case' inr.inl =>
  subst h;go_enter func65,ntmps65;go_wp2_with fail;refine(HLP.out _).mono ?_;rintro e w1 ⟨rfl,rfl⟩;obtain⟨b,hb⟩:∃ b,Fd.lpB y=b:=⟨_,rfl⟩;rw[hb] at HE ⊢;clear hb
  cases b <;>
  ·go_wp2_with fail
   go_ret;exact⟨V5 (by rw[HE.out];rfl),HAL.out _⟩
 all_goals
  subst h;go_enter func65,ntmps65;go_wp2_with fail;go_ret;exact⟨V5 rfl,HAL.out _⟩
theorem q9f (y:Int) (hy:0≤y) (h2:y≤100000) (w:World) :
  Calls prog 64 #[.int .i64 y] w fun e w'=>e=.returned (.int .i64 (Fd.ahead y))∧w'=w:=by
 by_cases h0:y=0
 ·subst h0
  go_enter func64,ntmps64;go_wp2_with fail;go_ret;exact⟨rfl,rfl⟩
 ·have e0:(y == 0)=false:=beq_eq_false_iff_ne.2 h0
  have HE:Hid (Fd.ahead y=365 * (y - 1 + 1) + (y - 1) / 4 - (y - 1) / 100 + (y - 1) / 400 + 1):=by show _=_;unfold Fd.ahead;rw[if_neg h0]
  have q4:(y - 1).tdiv 4=(y - 1) / 4:=q8z (by omega);have q100:(y - 1).tdiv 100=(y - 1) / 100:=q8z (by omega);have q400:(y - 1).tdiv 400=(y - 1) / 400:=q8z (by omega);have H4:=Ld q4;have H100:=Ld q100;have H400:=Ld q400;clear q4 q100 q400 h0;go_enter func64,ntmps64;go_wp2_with fail;go_ret;refine⟨V5 ?_,rfl⟩;rw[HE.out,H4.out,H100.out,H400.out];unfold wrap64;omega
end Go.Proofs.YtjonkbdldebkiaaGreatDoor
namespace Go.Proofs.YtjonkbdldebkiaaGreatDoor
open Go.RowKit

structure Ap (S:Nat→Prop) (w w':World):Prop where
 os:w'.os=w.os
 tape:w'.tape=w.tape
 output:w'.output=w.output
 size:w.heap.size≤w'.heap.size
 block:∀ k,k < w.heap.size→¬ S k→w'.heap[k]? = w.heap[k]?
theorem Ap.refl (S:Nat→Prop) (w:World):Ap S w w:=⟨rfl,rfl,rfl,Lr,fun _ _ _=>rfl⟩
theorem Ap.trans {S:Nat→Prop} {a b c:World} (h:Ap S a b) (k:Ap S b c):Ap S a c :=
 ⟨k.os.trans h.os,k.tape.trans h.tape,k.output.trans h.output,Nat.le_trans h.size k.size,fun i hi hs=>(k.block i (Nat.lt_of_lt_of_le hi h.size) hs).trans (h.block i hi hs)⟩
theorem Ap.of_below {S:Nat→Prop} {a b:World} (h:Below a.heap.size a b):Ap S a b:=⟨h.os,h.tape,h.output,h.size,fun k hk _=>h.block k hk⟩
theorem Ap.below {S:Nat→Prop} {B:Nat} {a b:World} (h:Ap S a b) (hB:B≤a.heap.size) (hS:∀ k,k < B→¬ S k):Below B a b :=
 ⟨h.os,h.tape,h.output,h.size,fun k hk=>h.block k (by omega) (hS k hk)⟩
theorem Ap.sub {S T:Nat→Prop} {a b:World} (h:Ap S a b) (hs:∀ k,S k→T k):Ap T a b:=⟨h.os,h.tape,h.output,h.size,fun k hk ht=>h.block k hk (fun q=>ht (hs k q))⟩
theorem Ap.drewN {S:Nat→Prop} {a b:World} (h:Ap S a b) (n:Nat):Ap S a (b.drewN n):=⟨h.os,h.tape,h.output,h.size,h.block⟩
theorem Ap.drew {S:Nat→Prop} {a b:World} (h:Ap S a b):Ap S a b.drew:=⟨h.os,h.tape,h.output,h.size,h.block⟩
theorem Ap.setCell {S:Nat→Prop} {a b:World} (h:Ap S a b) {p:Addr} (hp:S p.block) (v:Value):Ap S a (b.setCell p v) :=
 ⟨h.os,h.tape,h.output,by have:=h.size;simpa [World.setCell] using this,fun k hk hs=>(Below.heap_setCell b p v k (by rintro rfl;exact hs hp)).trans (h.block k hk hs)⟩
theorem Ap.alloc {S:Nat→Prop} {a b:World} (h:Ap S a b) (o:Obj):Ap S a (b.alloc o):=h.trans (Ap.of_below ((Below.refl _ b).alloc (Lr) o))
theorem Ap.grown {S:Nat→Prop} {a b c:World} (h:Ap S a b) {row:Option Nat} (hg:b.grownBy c row) (hr:∀ k,k < a.heap.size→row=some k→S k):Ap S a c :=
 ⟨hg.os.trans h.os,hg.tape.trans h.tape,hg.output.trans h.output,Nat.le_trans h.size hg.size,fun k hk hs=>(hg.block k (Nat.lt_of_lt_of_le hk h.size) (fun e=>hs (hr k hk e.symm))).trans (h.block k hk hs)⟩

def z19 (w:World) (K:Nat→Prop) (ao:Option Addr) (xs:List Value):Prop :=
 xs=[]∨∃ g o,ao=some ⟨g,o,none⟩∧K g∧∀ i v,xs[i]? = some v→w.cell? ⟨g,o + i,none⟩=some v
theorem cell_of_block {w w':World} {g:Nat} (h:w'.heap[g]? = w.heap[g]?) (o:Nat):w'.cell? ⟨g,o,none⟩=w.cell? ⟨g,o,none⟩:=by
 simp[World.cell?,h]
theorem z19.frame {w w':World} {K K':Nat→Prop} {ao:Option Addr} {xs:List Value} (h:z19 w K ao xs) (hk:∀ b,K b→K' b∧w'.heap[b]? = w.heap[b]?):z19 w' K' ao xs:=by
 rcases h with h | ⟨g,o,h1,h2,h3⟩
 ·exact .inl h
 ·exact .inr ⟨g,o,h1,(hk g h2).1,fun i v hi=>(cell_of_block (hk g h2).2 _).trans (h3 i v hi)⟩
theorem z19.of_own {w:World} {K:Nat→Prop} {B size n:Nat} {e:TypeId} {v:Value} {xs:List Value} (h:w.ownsRow B e size v n xs) (hK:∀ g,v.ownBlock=some g→K g):∃ ao cap,v=.slice ao n cap∧z19 w K ao xs∧n≤cap∧n≤maxLen:=by
 rcases h.2 with ⟨hv,hn⟩ | ⟨g,cap,cur,hv,_,hh,hnc,hcm,hcs,ht⟩
 ·subst hn
  exact⟨none,0,hv,.inl (List.eq_nil_of_length_eq_zero (by have:=h.1;omega)),Lr,Nat.zero_le _⟩
 ·refine⟨some ⟨g,0,none⟩,cap,hv,.inr ⟨g,0,rfl,hK g (by rw[hv];rfl),fun i u hi=>?_⟩,hnc,Nat.le_trans hnc hcm⟩
  have:=h.cells (g:=g) (by rw[hv];rfl) i u hi;have e1:(⟨g,0,none⟩:Addr).add i=⟨g,0 + i,none⟩:=by unfold Addr.add;split <;> simp_all
  rwa [e1] at this

def Y8 (l:List Mk.At):List Value:=l.flatMap fun x=>[.string (st x.n),.string (st x.v)]
def AtsV (w:World) (K:Nat→Prop) (v:Value) (l:List Mk.At):Prop:=∃ ao cap,v=.slice ao l.length cap∧z19 w K ao (Y8 l)∧l.length≤cap∧l.length≤maxLen
theorem AtsV.frame {w w':World} {K K':Nat→Prop} {v:Value} {l:List Mk.At} (h:AtsV w K v l) (hk:∀ b,K b→K' b∧w'.heap[b]? = w.heap[b]?):AtsV w' K' v l:=by
 obtain⟨ao,cap,h1,h2,h3⟩:=h;exact⟨ao,cap,h1,h2.frame hk,h3⟩
theorem AtsV.nil (w:World) (K:Nat→Prop):AtsV w K (.slice none 0 0) []:=⟨none,0,rfl,.inl rfl,Lr,Nat.zero_le _⟩
theorem AtsV.of_own {w:World} {K:Nat→Prop} {B:Nat} {e:TypeId} {v:Value} {l:List Mk.At} (h:w.ownsRow B e 2 v l.length (Y8 l)) (hK:∀ g,v.ownBlock=some g→K g):AtsV w K v l:=by
 obtain⟨ao,cap,h1,h2,h3⟩:=z19.of_own h hK;exact⟨ao,cap,h1,h2,h3⟩

def z0y (w:World) (K:Nat→Prop):List Mk.Tok→List Value→Prop
 | [],xs=>xs=[]
 | t :: r,xs=>∃ va ys,xs=[.int .i64 t.kind,.string (st t.name),va,.string (st t.text)]++ys∧AtsV w K va t.ats∧z0y w K r ys
theorem z0y.frame {w w':World} {K K':Nat→Prop} (hk:∀ b,K b→K' b∧w'.heap[b]? = w.heap[b]?):∀ {l:List Mk.Tok} {xs:List Value},z0y w K l xs→z0y w' K' l xs
 | [],_,h=>h
 | _ :: _,_,⟨va,ys,h1,h2,h3⟩=>⟨va,ys,h1,h2.frame hk,z0y.frame hk h3⟩
theorem z0y.length {w:World} {K:Nat→Prop}:∀ {l:List Mk.Tok} {xs:List Value},z0y w K l xs→xs.length=l.length * 4
 | [],_,h=>by rw[h];rfl
 | t :: r,_,⟨va,ys,h1,_,h3⟩=>by rw[h1,List.length_append,h3.length,List.length_cons];simp;omega
theorem z0y.snoc {w:World} {K:Nat→Prop} {t:Mk.Tok} {va:Value} (ha:AtsV w K va t.ats):∀ {l:List Mk.Tok} {xs:List Value},z0y w K l xs→z0y w K (l++[t]) (xs++[.int .i64 t.kind,.string (st t.name),va,.string (st t.text)])
 | [],_,h=>by rw[h];exact⟨va,[],rfl,ha,rfl⟩
 | _ :: _,_,⟨vb,ys,h1,h2,h3⟩=>⟨vb,_,by rw[h1,List.append_assoc],h2,h3.snoc ha⟩
def q1v (w:World) (K:Nat→Prop) (v:Value) (l:List Mk.Tok):Prop:=∃ ao cap xs,v=.slice ao l.length cap∧z19 w K ao xs∧z0y w K l xs∧l.length≤maxLen

def z07 (w:World) (K:Nat→Prop):Mk.Fo→List Value→Prop
 | .nil,xs=>xs=[]
 | .node n a t k r,xs=>∃ va ao cap zs ys,xs=[.string (st n),va,.string (st t),.slice ao k.len cap]++ys∧AtsV w K va a∧z19 w K ao zs∧k.len≤maxLen∧z07 w K k zs∧z07 w K r ys
theorem z07.frame {w w':World} {K K':Nat→Prop} (hk:∀ b,K b→K' b∧w'.heap[b]? = w.heap[b]?):∀ {f:Mk.Fo} {xs:List Value},z07 w K f xs→z07 w' K' f xs
 | .nil,_,h=>h
 | .node _ _ _ _ _,_,⟨va,ao,cap,zs,ys,h1,h2,h3,h4,h5,h6⟩=>⟨va,ao,cap,zs,ys,h1,h2.frame hk,h3.frame hk,h4,z07.frame hk h5,z07.frame hk h6⟩
theorem z07.length {w:World} {K:Nat→Prop}:∀ {f:Mk.Fo} {xs:List Value},z07 w K f xs→xs.length=f.len * 4
 | .nil,_,h=>by rw[h];rfl
 | .node _ _ _ _ r,_,⟨va,ao,cap,zs,ys,h1,_,_,_,_,h6⟩=>by rw[h1,List.length_append,h6.length];simp[Mk.Fo.len];omega
def FoV (w:World) (K:Nat→Prop) (v:Value) (f:Mk.Fo):Prop:=∃ ao cap xs,v=.slice ao f.len cap∧z19 w K ao xs∧z07 w K f xs∧f.len≤maxLen
theorem FoV.frame {w w':World} {K K':Nat→Prop} {v:Value} {f:Mk.Fo} (h:FoV w K v f) (hk:∀ b,K b→K' b∧w'.heap[b]? = w.heap[b]?):FoV w' K' v f:=by
 obtain⟨ao,cap,xs,h1,h2,h3,h4⟩:=h;exact⟨ao,cap,xs,h1,h2.frame hk,h3.frame hk,h4⟩
theorem q1v.frame {w w':World} {K K':Nat→Prop} {v:Value} {f:List Mk.Tok} (h:q1v w K v f) (hk:∀ b,K b→K' b∧w'.heap[b]? = w.heap[b]?):q1v w' K' v f:=by
 obtain⟨ao,cap,xs,h1,h2,h3,h4⟩:=h;exact⟨ao,cap,xs,h1,h2.frame hk,h3.frame hk,h4⟩

section
variable {P : Program} {w : World}
theorem z5x (base:Nat) (t ty e:TypeId) (i:TypeInfo) (z:Value) (size bytes:Nat) (ht:P.underlying t=some (.slice e)) (hi:P.info? e=some i) (hz:i.zero=some z)
  (hsize:i.size=size) (hby:i.bytes=bytes) (v:Value) (n:Nat) (xs:List Value) (hown:w.ownsRow base e size v n xs)
  (a:Addr) (m c:Nat) (news:List Value) (hl:news.length=m * size) (hnews:∀ j u,news[j]? = some u→w.cell? (a.add j)=some u) (h1:∀ u ∈ news,u.oneCell'=true)
  (hm0:0 < m) (h63:n + m≤maxLen) (hbytes:(n + m) * bytes≤140737488355328) {v':Value} {w':World}
  (hr:(Builtin.append_ #[t,t] ty #[v,.slice (some a) m c]).run P w=.ok v' w'):v'.ownBlock=v.ownBlock∨v'.ownBlock=some w.heap.size:=by
 subst hsize;subst hby;have hsmall:n + m≤9223372036854775807:=by simp only [maxLen] at h63;omega
 rcases hown.2 with ⟨rfl,rfl⟩ | ⟨g,cap,cur,rfl,_,hg,hnc,_,hcs,_⟩
 ·rw[run_append_nil (P:=P) w t ty e i z ht hi hz a m c news hl hnews hm0 (by omega) (by rw[Nat.zero_add] at hbytes;omega)] at hr
  injection hr with h _;subst h;exact .inr rfl
 ·by_cases hroom:n + m≤cap
  ·have hfit:n * i.size + news.length≤cur.size:=by rw[hl,hcs,← Nat.add_mul];exact Nat.mul_le_mul_right _ hroom
   rw[run_append_room (P:=P) w t ty e i ht hi g n cap cur hg a m c news hl hnews h1 hroom hfit] at hr;injection hr with h _;subst h;exact .inl rfl
  ·rw[run_append_grow (P:=P) w t ty e i z ht hi hz ⟨g,0,none⟩ n cap xs hown.1 (hown.cells (g:=g) rfl) a m c news hl hnews (by omega) (by omega) (growslice_fits (by omega) hbytes)] at hr
   injection hr with h _;subst h;exact .inr rfl
theorem J3 {ops:Array Oper} {rest:List Oper} {o:Oper} {a:Act} {Q:Exit→Act→World→Prop} (hgd:o.guard=none) (s x:Operand) (t:TypeId)
  (ho:o.op=.call { callee:=.builtin .append,args:=#[s,x],argTypes:=#[t,t] })
  (base:Nat) (e:TypeId) (i:TypeInfo) (z:Value) (size bytes:Nat) (ht:P.underlying t=some (.slice e)) (hi:P.info? e=some i) (hz:i.zero=some z)
  (hsize:i.size=size) (hby:i.bytes=bytes) (hzs:z.cells.size=size) (hsz:0 < size)
  (v:Value) (n:Nat) (xs:List Value) (hs:a.eval s=v) (hown:w.ownsRow base e size v n xs)
  (ad:Addr) (m c:Nat) (news:List Value) (hx:a.eval x=.slice (some ad) m c) (hl:news.length=m * size) (hnews:∀ j u,news[j]? = some u→w.cell? (ad.add j)=some u) (h1:∀ u ∈ news,u.oneCell'=true)
  (hm0:0 < m) (h63:n + m≤maxLen) (hbytes:(n + m) * bytes≤140737488355328) (hbase:base≤w.heap.size)
  (h:∀ v' w',w'.ownsRow base e size v' (n + m) (xs++news)→w.grownBy w' v.ownBlock→(v'.ownBlock=v.ownBlock∨v'.ownBlock=some w.heap.size)→wpList P ops Q rest (a.put o.dst v') w'):wpList P ops Q (o :: rest) a w:=by
 refine wpList_plain hgd fun K hK=>?_
 obtain⟨v',w',hr,h2,h3,_⟩:=run_append_own (P:=P) w base t o.type e i z size bytes ht hi hz hsize hby hzs hsz v n xs hown ad m c news hl hnews h1 h63 hbytes hbase;have h5:=z5x base t o.type e i z size bytes ht hi hz hsize hby v n xs hown ad m c news hl hnews h1 hm0 h63 hbytes hr;have hfin:=hK _ _ (h v' w' h2 h3 h5);unfold Oper.wp execOp;simp only [ho,resolve,invoke,builtin,Sem.run_bind,Sem.run_pure,Result.andThen_ok,List.map_toArray,List.map_cons,List.map_nil,hs,hx,hr];exact hfin
end
end Go.Proofs.YtjonkbdldebkiaaGreatDoor
