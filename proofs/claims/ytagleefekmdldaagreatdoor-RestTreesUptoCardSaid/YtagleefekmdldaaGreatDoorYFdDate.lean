/- The plain law of dates: days ahead of a year, a month's length, a time as it is written. No program in sight. -/
import Derived.Test.YtagleefekmdldaaGreatDoorYRfH
import Derived.Test.YtagleefekmdldaaGreatDoorYMkHtml
import Derived.Test.YtagleefekmdldaaGreatDoorYMkSafe2
import Derived.Test.YtagleefekmdldaaGreatDoorYMkRep6
import Derived.Test.YtagleefekmdldaaGreatDoorYUrlD
import Derived.Test.YtagleefekmdldaaGreatDoorYMkByt1
import Derived.Deep.RegionHeld3
set_option linter.unusedVariables false
set_option linter.unusedSimpArgs false
set_option maxHeartbeats 8000000
set_option maxRecDepth 100000
namespace Fd
abbrev Bs:=List UInt8
def lpB (y:Int):Bool:=decide (y % 4=0∧¬ y % 100=0∨y % 400=0)
def lp (y:Int):Int:=if lpB y then 1 else 0
def ahead (y:Int):Int:=if y=0 then 0 else 365 * (y - 1 + 1) + (y - 1) / 4 - (y - 1) / 100 + (y - 1) / 400 + 1
def long (y m:Int):Int:=if m=2 then 28 + lp y else if m=4∨m=6∨m=9∨m=11 then 30 else 31
def rest (y m:Int):Int :=
 if m=1 then 365 + lp y else if m=2 then 334 + lp y else if m=3 then 306 else if m=4 then 275 else if m=5 then 245 else if m=6 then 214 else if m=7 then 184
 else if m=8 then 153 else if m=9 then 122 else if m=10 then 92 else if m=11 then 61 else if m=12 then 31 else 0
def yrs:Nat→Int→Int→Int × Int
 | 0,y,d=>(y,d)
 | n + 1,y,d=>if 365 + lp y≤d then yrs n (y + 1) (d - (365 + lp y)) else (y,d)
def mths:Nat→Int→Int→Int→Int × Int
 | 0,_,m,d=>(m,d)
 | n + 1,y,m,d=>if long y m≤d then mths n y (m + 1) (d - long y m) else (m,d)
def digs:Nat→Nat→Bs
 | 0,_=>[]
 | k + 1,n=>digs k (n / 10)++[UInt8.ofNat (48 + n % 10)]
def j7f (at_:Int):Int:=(yrs 200 1970 (at_ / 86400)).1
def dayOf (at_:Int):Int:=(yrs 200 1970 (at_ / 86400)).2
def monOf (at_:Int):Int:=(mths 12 (j7f at_) 1 (dayOf at_)).1
def mdayOf (at_:Int):Int:=(mths 12 (j7f at_) 1 (dayOf at_)).2
def j0x (at_:Int):Bs :=
 digs 4 (j7f at_).toNat++[45]++digs 2 (monOf at_).toNat++[45]++digs 2 (mdayOf at_ + 1).toNat++[84]++digs 2 (at_ % 86400 / 3600).toNat++[58]++digs 2 (at_ % 86400 / 60 % 60).toNat++[58]++digs 2 (at_ % 86400 % 60).toNat++[90]
def q9f (c:UInt8):Bool:=c != 38 && c != 60 && c != 62 && c != 34
theorem q6g:∀ s:Bs,s.all q9f=true→Mk.put s=s
 | [],_=>rfl
 | c :: t,h=>by
  rw[List.all_cons,Bool.and_eq_true] at h;have h2:=q6g t h.2;have h1:=h.1;unfold q9f at h1;simp only [Bool.and_eq_true,bne_iff_ne,ne_eq] at h1;have e:Mk.esc c=[c]:=by
   unfold Mk.esc;rw[if_neg h1.1.1.1,if_neg h1.1.1.2,if_neg h1.1.2,if_neg h1.2]
  show Mk.esc c++Mk.put t=_;rw[e,h2];rfl
theorem q2s:∀ (k n:Nat),(digs k n).all q9f=true
 | 0,_=>rfl
 | k + 1,n=>by
  rw[digs,List.all_append,q2s k];have h:n % 10 < 10:=Nat.mod_lt _ (by decide);have hd:∀ m:Fin 10,([UInt8.ofNat (48 + m.val)].all q9f)=true:=by decide
  exact hd ⟨n % 10,h⟩
theorem put_date (at_:Int):Mk.put (j0x at_)=j0x at_:=by
 refine q6g _ ?_;unfold j0x;simp only [List.all_append,q2s,Bool.true_and,Bool.and_true];decide
structure En where
 id:Bs
 ti:Bs
 li:Bs
 at_:Int
 ht:Bs
 deriving DecidableEq
def staysB (s:Bs):Bool:=decide (s.length≤3000) && (Mk.z88 (Mk.build (Mk.toks s)) && (Mk.bytes (Mk.flat (Mk.build (Mk.toks s))) == s))
def z7c (x:En):Int :=
 if x.id=[] then 1
 else if 60 < x.id.length∨3000 < x.ti.length∨3000 < x.li.length∨3000 < x.ht.length then 2
 else if x.at_ < 0∨4102444799 < x.at_ then 3
 else if (x.li ≠ []∧Mg.isSafe x.li=false)∨staysB x.ht=false then 4 else 0
def cmpB:Bs→Bs→Int
 | [],[]=>0
 | [],_ :: _=>-1
 | _ :: _,[]=>1
 | a :: s,b :: t=>if a=b then cmpB s t else if a < b then -1 else 1
theorem q0x:∀ a b:Bs,cmpB b a = - cmpB a b
 | [],[]=>rfl
 | [],b :: t=>rfl
 | a :: s,[]=>rfl
 | a :: s,b :: t=>by
  rw[cmpB,cmpB]
  by_cases h:a=b
  ·rw[if_pos h,if_pos h.symm,q0x s t]
  ·rw[if_neg h,if_neg (fun e=>h e.symm)]
   by_cases h2:a < b
   ·rw[if_pos h2,if_neg (fun q=>by have:=UInt8.lt_asymm h2;exact this q)]
    rfl
   ·have h3:b < a:=by
     rcases UInt8.lt_or_lt_of_ne h with q | q
     ·exact absurd q h2
     ·exact q
    rw[if_neg h2,if_pos h3]
theorem z8k:∀ a b c:Bs,cmpB a b < 0→cmpB b c < 0→cmpB a c < 0
 | [],[],c,h,_=>by simp[cmpB] at h
 | [],b :: t,[],_,h=>by simp[cmpB] at h
 | [],b :: t,c :: u,_,_=>by simp[cmpB]
 | a :: s,[],c,h,_=>by simp[cmpB] at h
 | a :: s,b :: t,[],_,h=>by simp[cmpB] at h
 | a :: s,b :: t,c :: u,h1,h2=>by
  rw[cmpB] at h1 h2 ⊢
  by_cases e1:a=b
  ·subst e1
   rw[if_pos rfl] at h1
   by_cases e2:a=c
   ·subst e2
    rw[if_pos rfl] at h2 ⊢;exact z8k s t u h1 h2
   ·rw[if_neg e2] at h2 ⊢
    exact h2
  ·rw[if_neg e1] at h1
   have l1:a < b:=by
    by_cases q:a < b
    ·exact q
    ·rw[if_neg q] at h1;omega
   by_cases e2:b=c
   ·subst e2
    rw[if_neg e1,if_pos l1];omega
   ·rw[if_neg e2] at h2
    have l2:b < c:=by
     by_cases q:b < c
     ·exact q
     ·rw[if_neg q] at h2;omega
    have l3:a < c:=UInt8.lt_trans l1 l2;rw[if_neg (fun e=>by rw[e] at l3;exact UInt8.lt_irrefl _ l3),if_pos l3];omega
def ordE (a b:En):Int:=if a.at_=b.at_ then cmpB a.id b.id else b.at_ - a.at_
theorem j1z (a b c:En) (h1:ordE a b < 0) (h2:ordE b c < 0):ordE a c < 0:=by
 unfold ordE at *
 by_cases e1:a.at_=b.at_
 ·rw[if_pos e1] at h1
  by_cases e2:b.at_=c.at_
  ·rw[if_pos e2] at h2
   rw[if_pos (e1.trans e2)];exact z8k _ _ _ h1 h2
  ·rw[if_neg e2] at h2
   rw[if_neg (fun e=>e2 (e1.symm.trans e))];omega
 ·rw[if_neg e1] at h1
  by_cases e2:b.at_=c.at_
  ·rw[if_pos e2] at h2
   rw[if_neg (fun e=>e1 (e.trans e2.symm))];omega
  ·rw[if_neg e2] at h2
   rw[if_neg (by omega)];omega
def z3q:List En→List En→Int
 | _,[]=>0
 | seen,x :: r =>
  if z7c x ≠ 0 then z7c x
  else if (seen.any fun y=>y.id == x.id)=true then 6
  else match seen.getLast? with
   | none=>z3q (seen++[x]) r
   | some y=>if 0≤ordE y x then 4 else z3q (seen++[x]) r
def z3r:Option Bs→List Bs→Int
 | _,[]=>0
 | p,s :: r=>if s=[] then 1 else if 60 < s.length then 2 else match p with
  | none=>z3r (some s) r
  | some q=>if cmpB s q≤0 then 4 else z3r (some s) r
theorem z99 (p:Option Bs) (s:Bs) (r:List Bs):z3r p (s :: r)=if s=[] then 1 else if 60 < s.length then 2 else match p with
  | none=>z3r (some s) r
  | some q=>if cmpB s q≤0 then 4 else z3r (some s) r:=by cases p <;> rfl
structure Sh where
 es:List En
 rd:List Bs
 deriving DecidableEq
def q7k (s:Sh):Int:=if 20 < s.es.length∨40 < s.rd.length then 2 else if z3q [] s.es ≠ 0 then z3q [] s.es else z3r none s.rd
def z3x (l:List En):Prop:=(∀ x ∈ l,z7c x=0)∧l.Pairwise (fun a b=>a.id ≠ b.id)∧l.Pairwise (fun a b=>ordE a b < 0)
def q0e (l:List Bs):Prop:=(∀ s ∈ l,s ≠ []∧s.length≤60)∧l.Pairwise (fun a b=>cmpB a b < 0)
def j3n (s:Sh):Prop:=s.es.length≤20∧s.rd.length≤40∧z3x s.es∧q0e s.rd
theorem z3x.nil:z3x []:=⟨fun _ h=>(by cases h),List.Pairwise.nil,List.Pairwise.nil⟩
theorem j5z {α:Type _} {R:α→α→Prop} (l:List α) (x:α) (h:l.Pairwise R) (hx:∀ y ∈ l,R y x):(l++[x]).Pairwise R:=by
 rw[List.pairwise_append];exact⟨h,List.pairwise_singleton _ _,fun a ha b hb=>by rw[List.mem_singleton.1 hb];exact hx a ha⟩
theorem last_all (l:List En) (x y:En) (h:l.Pairwise (fun a b=>ordE a b < 0)) (hy:l.getLast? = some y) (hyx:ordE y x < 0):∀ z ∈ l,ordE z x < 0:=by
 intro z hz;have hne:l ≠ []:=by rintro rfl;cases hz
 rw[List.getLast?_eq_some_getLast hne] at hy;injection hy with hy;have e:l=l.dropLast++[y]:=by rw[← hy];exact(List.dropLast_concat_getLast hne).symm
 rw[e] at h hz
 rcases List.mem_append.1 hz with q | q
 ·have:=(List.pairwise_append.1 h).2.2 z q y (List.mem_singleton.2 rfl)
  exact j1z _ _ _ this hyx
 ·rw[List.mem_singleton.1 q];exact hyx
theorem z7n:∀ (l seen:List En),z3x seen→z3q seen l=0→z3x (seen++l)
 | [],seen,h,_=>by rw[List.append_nil];exact h
 | x :: r,seen,h,hc=>by
  rw[z3q] at hc
  by_cases h1:z7c x ≠ 0
  ·rw[if_pos h1] at hc;exact absurd hc h1
  rw[if_neg h1] at hc;have h1:z7c x=0:=by omega
  by_cases h2:(seen.any fun y=>y.id == x.id)=true
  ·rw[if_pos h2] at hc;cases hc
  rw[if_neg h2] at hc;have hid:∀ y ∈ seen,y.id ≠ x.id:=fun y hy e=>h2 (by rw[List.any_eq_true];exact⟨y,hy,by rw[e];exact beq_self_eq_true _⟩)
  have step:(∀ y ∈ seen,ordE y x < 0)→z3q (seen++[x]) r=0→z3x (seen++x :: r):=fun ho hcc=>by
   have hr:z3x (seen++[x]):=⟨fun y hy=>by
    rcases List.mem_append.1 hy with q | q
    ·exact h.1 y q
    ·rw[List.mem_singleton.1 q];exact h1,j5z _ _ h.2.1 hid,j5z _ _ h.2.2 ho⟩
   have:=z7n r (seen++[x]) hr hcc;rw[List.append_assoc] at this;exact this
  cases hl:seen.getLast? with
  | none =>
   rw[hl] at hc;have hs:seen=[]:=List.getLast?_eq_none_iff.1 hl;exact step (fun y hy=>by rw[hs] at hy;cases hy) hc
  | some y =>
   rw[hl] at hc;simp only at hc
   by_cases h3:0≤ordE y x
   ·rw[if_pos h3] at hc;cases hc
   rw[if_neg h3] at hc;exact step (last_all seen x y h.2.2 hl (by omega)) hc
theorem z5b:∀ (l seen:List En),z3x (seen++l)→z3q seen l=0
 | [],seen,_=>rfl
 | x :: r,seen,h=>by
  have hx:x ∈ seen++x :: r:=List.mem_append.2 (.inr (List.mem_cons_self ..));have hid:=(List.pairwise_append.1 h.2.1).2.2;have ho:=(List.pairwise_append.1 h.2.2).2.2;have hr:z3x ((seen++[x])++r):=by rw[List.append_assoc];exact h
  rw[z3q,if_neg (by rw[h.1 x hx];simp),if_neg]
  ·cases hl:seen.getLast? with
   | none=>exact z5b r _ hr
   | some y =>
    simp only;have hy:y ∈ seen:=List.mem_of_getLast? hl;have:=ho y hy x (List.mem_cons_self ..);rw[if_neg (by omega)];exact z5b r _ hr
  ·intro q
   rw[List.any_eq_true] at q;obtain⟨y,hy,e⟩:=q;exact hid y hy x (List.mem_cons_self ..) (beq_iff_eq.1 e)
theorem z4q:∀ (l:List Bs) (p:Option Bs),z3r p l=0→q0e l∧∀ q,p=some q→∀ s ∈ l,cmpB q s < 0
 | [],p,_=>⟨⟨fun _ h=>(by cases h),List.Pairwise.nil⟩,fun _ _ _ h=>(by cases h)⟩
 | s :: r,p,h=>by
  rw[z99] at h
  by_cases h1:s=[]
  ·rw[if_pos h1] at h;cases h
  rw[if_neg h1] at h
  by_cases h2:60 < s.length
  ·rw[if_pos h2] at h;cases h
  rw[if_neg h2] at h;have key:z3r (some s) r=0→q0e (s :: r):=fun hh=>by
   obtain⟨a,b⟩:=z4q r (some s) hh;exact⟨fun x hx=>by
    rcases List.mem_cons.1 hx with q | q
    ·rw[q];exact⟨h1,by omega⟩
    ·exact a.1 x q,List.pairwise_cons.2 ⟨fun x hx=>b s rfl x hx,a.2⟩⟩
  cases p with
  | none=>exact⟨key h,fun q e=>by cases e⟩
  | some q =>
   simp only at h
   by_cases h3:cmpB s q≤0
   ·rw[if_pos h3] at h;cases h
   rw[if_neg h3] at h;have hqs:cmpB q s < 0:=by have:=q0x q s;omega
   refine⟨key h,fun q' e x hx=>?_⟩;injection e with e;subst e
   rcases List.mem_cons.1 hx with q2 | q2
   ·rw[q2];exact hqs
   ·exact z8k _ _ _ hqs ((z4q r (some s) h).2 s rfl x q2)
theorem z81:∀ (l:List Bs) (p:Option Bs),q0e l→(∀ q,p=some q→∀ s ∈ l,cmpB q s < 0)→z3r p l=0
 | [],p,_,_=>rfl
 | s :: r,p,h,hp=>by
  obtain⟨h1,h2⟩:=h.1 s (List.mem_cons_self ..);obtain⟨h3,h4⟩:=List.pairwise_cons.1 h.2;have hr:z3r (some s) r=0:=z81 r (some s) ⟨fun x hx=>h.1 x (List.mem_cons_of_mem _ hx),h4⟩ (fun q e x hx=>by injection e with e;subst e;exact h3 x hx);rw[z99,if_neg h1,if_neg (by omega)]
  cases p with
  | none=>exact hr
  | some q =>
   simp only;have:=hp q rfl s (List.mem_cons_self ..);have h5:=q0x q s;rw[if_neg (by omega)];exact hr
theorem q7l (s:Sh):q7k s=0↔j3n s:=by
 unfold q7k j3n;constructor
 ·intro h
  by_cases h1:20 < s.es.length∨40 < s.rd.length
  ·rw[if_pos h1] at h;cases h
  rw[if_neg h1] at h
  by_cases h2:z3q [] s.es ≠ 0
  ·rw[if_pos h2] at h;exact absurd h h2
  rw[if_neg h2] at h;have:=z7n s.es [] z3x.nil (by omega);rw[List.nil_append] at this;exact⟨by omega,by omega,this,(z4q s.rd none h).1⟩
 ·rintro ⟨h1,h2,h3,h4⟩
  have e:=z5b s.es [] (by rw[List.nil_append];exact h3);rw[if_neg (by omega),e,if_neg (by simp)];exact z81 s.rd none h4 (fun q e=>by cases e)
theorem z3x.sub {l m:List En} (h:z3x l) (hs:m.Sublist l):z3x m:=⟨fun x hx=>h.1 x (hs.subset hx),h.2.1.sublist hs,h.2.2.sublist hs⟩
theorem q0e.sub {l m:List Bs} (h:q0e l) (hs:m.Sublist l):q0e m:=⟨fun x hx=>h.1 x (hs.subset hx),h.2.sublist hs⟩
def apartB (n:Bs):Bool:=[[112],[108,105],[98,108,111,99,107,113,117,111,116,101],[117,108],[111,108]].contains n
def tellF:Mk.Fo→Bs
 | .nil=>[]
 | .node n _ t k r=>t++((if Mk.z0n n || apartB n then [32] else [])++(tellF k++((if apartB n then [32] else [])++tellF r)))
def q49:Bs→Bs→List Bs
 | f,[]=>if f=[] then [] else [f]
 | f,c :: t=>if Mk.white c then (if f=[] then q49 [] t else f :: q49 [] t) else q49 (f++[c]) t
def fieldsB (s:Bs):List Bs:=q49 [] s
def joinB:List Bs→Bs
 | []=>[]
 | [x]=>x
 | x :: y :: l=>x++([32]++joinB (y :: l))
def toldB (s:Bs):Bs:=joinB (fieldsB (tellF (Mk.build (Mk.toks s))))
def lnOf (T:Bs→Bs) (x:En):Mk.Ln:=⟨x.ti,x.li,if x.at_=0 then [] else [32]++j0x x.at_,T x.ht⟩
def lineE (T:Bs→Bs) (x:En):Bs:=Mk.lineB (lnOf T x)
def pageS (T:Bs→Bs) (s:Sh):Bs:=[60,117,108,62]++s.es.flatMap (lineE T)++[60,47,117,108,62]
theorem pageS_eq (T:Bs→Bs) (s:Sh):pageS T s=Mk.j2a (s.es.map (lnOf T)):=by
 unfold pageS Mk.j2a;rw[List.flatMap_map];rfl
theorem en_link {x:En} (h:z7c x=0):x.li=[]∨Mk.z07 x.li=true:=by
 unfold z7c at h
 by_cases q1:x.id=[]
 ·rw[if_pos q1] at h;cases h
 rw[if_neg q1] at h
 by_cases q2:60 < x.id.length∨3000 < x.ti.length∨3000 < x.li.length∨3000 < x.ht.length
 ·rw[if_pos q2] at h;cases h
 rw[if_neg q2] at h
 by_cases q3:x.at_ < 0∨4102444799 < x.at_
 ·rw[if_pos q3] at h;cases h
 rw[if_neg q3] at h
 by_cases q4:(x.li ≠ []∧Mg.isSafe x.li=false)∨staysB x.ht=false
 ·rw[if_pos q4] at h;cases h
 by_cases hl:x.li=[]
 ·exact .inl hl
 ·right
  unfold Mk.z07;rw[Bool.and_eq_true];refine⟨?_,decide_eq_true (by omega)⟩
  cases hs:Mg.isSafe x.li with
  | true=>rfl
  | false=>exact absurd (.inl ⟨hl,hs⟩) q4
theorem q3a (T:Bs→Bs) (s:Sh) (h:q7k s=0):Mk.html [] (pageS T s)=pageS T s:=by
 obtain⟨_,_,hr,_⟩:=(q7l s).1 h;rw[pageS_eq];refine Mk.j4z _ ?_ ?_
 ·intro x hx
  obtain⟨y,hy,rfl⟩:=List.mem_map.1 hx;show Mk.put (if y.at_=0 then [] else [32]++j0x y.at_)=(if y.at_=0 then [] else [32]++j0x y.at_)
  split
  ·rfl
  ·rw[Mk.q3b,put_date];rfl
 ·intro x hx
  obtain⟨y,hy,rfl⟩:=List.mem_map.1 hx;exact en_link (hr.1 y hy)
end Fd
namespace Go.Proofs.YtagleefekmdldaaGreatDoor
open Go.RowKit
theorem z7s (n:List UInt8):(n=[]∧n.isEmpty=true)∨(n ≠ []∧n.isEmpty=false):=by
 cases n with
 | nil=>exact .inl ⟨rfl,rfl⟩
 | cons _ _=>exact .inr ⟨by simp,rfl⟩
end Go.Proofs.YtagleefekmdldaaGreatDoor
namespace Fd
inductive Rs (α:Type) where
 | ok:α→Bs→Rs α
 | er:Int→Rs α
def z9o (c:UInt8):Bool:=c == 9 || c == 10 || c == 13 || c == 32
def V9 (s:Bs):Bs:=s.dropWhile z9o
def z1s (first:Bool) (c:UInt8):Bool:=(97≤c && c≤122) || (65≤c && c≤90) || c == 95 || (!first && ((48≤c && c≤57) || c == 45 || c == 46 || c == 58))
def z2w:Bool→Bs→Bool
 | _,[]=>true
 | f,c :: t=>z1s f c && z2w false t
def X0 (s:Bs):Bool:=z2w true s && decide (s ≠ []) && decide (s.length≤20)
def z5f:Bool→Bs→Bs
 | _,[]=>[]
 | f,c :: t=>if z1s f c then c :: z5f false t else []
def X5 (s:Bs):Rs Bs:=if X0 (z5f true s) then .ok (z5f true s) (s.drop (z5f true s).length) else .er 1
def z05 (p s:Bs):Rs Unit:=if Mg.pre p s then .ok () (s.drop p.length) else .er 1
def z00 (p:Bs):Bs→Option (Bs × Bs)
 | []=>none
 | c :: t=>if Mg.pre p (c :: t) then some ([],(c :: t).drop p.length) else (z00 p t).map fun x=>(c :: x.1,x.2)
def toX (p s:Bs):Rs Bs:=match z00 p s with | none=>.er 1 | some x=>.ok x.1 x.2
def z0x (s:Bs):Option (Rs Unit) :=
 if Mg.pre [60,33,45,45] s then some (match z00 [45,45,62] (s.drop 4) with | none=>.er 1 | some x=>.ok () x.2)
 else if Mg.pre [60,63] s then some (match z00 [63,62] (s.drop 2) with | none=>.er 1 | some x=>.ok () x.2)
 else none
def z7e:Nat→Bs→Rs Unit
 | 0,s=>.ok () s
 | n + 1,s =>
  if (V9 s).length < s.length then z7e n (V9 s)
  else match z0x s with
   | none=>.ok () s
   | some (.er e)=>.er e
   | some (.ok _ r)=>z7e n r
def z3s (s:Bs):Rs Unit:=z7e (s.length + 1) s
def z2s (s:Bs):Rs Bs :=
 let q:UInt8:=if Mg.pre [39] s then 39 else 34
 match z05 [q] s with
 | .er e=>.er e
 | .ok _ r =>
  match toX [q] r with
  | .er e=>.er e
  | .ok v u=>if v.contains 60 then .er 1 else if (Mk.take v).2 then .ok (Mk.take v).1 u else .er 1
def z3p (s:Bs):Rs Mk.At :=
 match X5 s with
 | .er e=>.er e
 | .ok nm r =>
  match z05 [61] (V9 r) with
  | .er e=>.er e
  | .ok _ u =>
   match z2s (V9 u) with
   | .er e=>.er e
   | .ok v z=>.ok ⟨nm,v⟩ z
def z01:Nat→Bs→List Mk.At→Rs (List Mk.At)
 | 0,s,out=>.ok out s
 | n + 1,s,out =>
  if (V9 s).length < s.length then
   match V9 s with
   | []=>.ok out []
   | c :: t =>
    if z1s true c then
     match z3p (c :: t) with
     | .er e=>.er e
     | .ok a r=>if Mk.J3 X0 [] (out++[a]) ≠ 0 then .er 6 else z01 n r (out++[a])
    else .ok out (c :: t)
  else .ok out s
def z1u (s:Bs):Rs (List Mk.At):=z01 (s.length + 1) s []
def z90 (f:Mk.Fo) (t:Bs):Mk.Fo:=if t=[] then f else Mk.Fo.snoc [] [] t .nil f
structure El where
 name:Bs
 ats:List Mk.At
 kids:Mk.Fo
mutual
def z3h:Nat→Int→Bs→Rs El
 | 0,_,_=>.er 1
 | n + 1,deep,s =>
  match z05 [60] s with
  | .er e=>.er e
  | .ok _ r =>
   match X5 r with
   | .er e=>.er e
   | .ok nm u =>
    if 8 < deep then .er 2
    else match z1u u with
     | .er e=>.er e
     | .ok l z =>
      if Mg.pre [47,62] z then .ok ⟨nm,l,.nil⟩ (z.drop 2)
      else match z05 [62] z with
       | .er e=>.er e
       | .ok _ y =>
        match z1e n deep y .nil with
        | .er e=>.er e
        | .ok k x =>
         match X5 x with
         | .er e=>.er e
         | .ok nm2 v=>if nm2 ≠ nm then .er 4 else
          match z05 [62] (V9 v) with
          | .er e=>.er e
          | .ok _ o=>.ok ⟨nm,l,k⟩ o
def z1e:Nat→Int→Bs→Mk.Fo→Rs Mk.Fo
 | 0,_,_,_=>.er 1
 | n + 1,deep,s,out =>
  if Mg.pre [60,47] s then .ok out (s.drop 2)
  else if Mg.pre [60,33,91,67,68,65,84,65,91] s then
   match toX [93,93,62] (s.drop 9) with
   | .er e=>.er e
   | .ok t r=>z1e n deep r (z90 out t)
  else match z0x s with
   | some (.er e)=>.er e
   | some (.ok _ r)=>z1e n deep r out
   | none =>
    if Mg.pre [60] s then
     match z3h n (deep + 1) s with
     | .er e=>.er e
     | .ok x r=>z1e n deep r (out.app (.node x.name x.ats [] x.kids .nil))
    else match z00 [60] s with
     | none=>.er 1
     | some (t,_)=>if (Mk.take t).2 then z1e n deep (s.drop t.length) (z90 out (Mk.take t).1) else .er 1
end
def xmlR (s:Bs):El × Int :=
 match z3s s with
 | .er e=>(⟨[],[],.nil⟩,e)
 | .ok _ r =>
  match z3h (r.length + 1) 1 r with
  | .er e=>(⟨[],[],.nil⟩,e)
  | .ok x u =>
   match z3s u with
   | .er e=>(⟨[],[],.nil⟩,e)
   | .ok _ v=>if v=[] then (x,0) else (⟨[],[],.nil⟩,1)
def xmlB:Mk.Fo→Bs
 | .nil=>[]
 | .node n a t k r=>(if n=[] then Mk.put t else [60]++n++Mk.written a++(if k=.nil then [47,62] else [62]++xmlB k++[60,47]++n++[62]))++xmlB r
example:(xmlR [60,97,62,120,60,98,47,62,60,47,97,62]).2=0:=by decide +kernel
example:xmlB (.node [97] [] [] (.node [] [] [120] .nil (.node [98] [] [] .nil .nil)) .nil)=[60,97,62,120,60,98,47,62,60,47,97,62]:=by decide +kernel
theorem j3e (c:UInt8):z9o c=true↔((c.toNat:Int)=9∨(c.toNat:Int)=10∨(c.toNat:Int)=13∨(c.toNat:Int)=32):=Mg.z0h (fun c=>z9o c=true↔((c.toNat:Int)=9∨(c.toNat:Int)=10∨(c.toNat:Int)=13∨(c.toNat:Int)=32)) (by decide +kernel) c
def t1B (c:UInt8):Bool:=(97≤c && c≤122) || (65≤c && c≤90) || c == 95
def t2B (c:UInt8):Bool:=(48≤c && c≤57) || c == 45 || c == 46 || c == 58
theorem j6p (f:Bool) (c:UInt8):z1s f c=(t1B c || (!f && t2B c)):=rfl
theorem t1_iff (c:UInt8):t1B c=true↔((97≤(c.toNat:Int)∧(c.toNat:Int)≤122)∨(65≤(c.toNat:Int)∧(c.toNat:Int)≤90)∨(c.toNat:Int)=95):=Mg.z0h (fun c=>t1B c=true↔((97≤(c.toNat:Int)∧(c.toNat:Int)≤122)∨(65≤(c.toNat:Int)∧(c.toNat:Int)≤90)∨(c.toNat:Int)=95)) (by decide +kernel) c
theorem t2_iff (c:UInt8):t2B c=true↔((48≤(c.toNat:Int)∧(c.toNat:Int)≤57)∨(c.toNat:Int)=45∨(c.toNat:Int)=46∨(c.toNat:Int)=58):=Mg.z0h (fun c=>t2B c=true↔((48≤(c.toNat:Int)∧(c.toNat:Int)≤57)∨(c.toNat:Int)=45∨(c.toNat:Int)=46∨(c.toNat:Int)=58)) (by decide +kernel) c
theorem q4x (s:Bs) (k:Nat) (h:k < s.length):z2w (decide (k=0)) (s.drop k)=(z1s (decide (k=0)) s[k] && z2w (decide (k + 1=0)) (s.drop (k + 1))):=by
 rw[List.drop_eq_getElem_cons h];rfl
end Fd
namespace Go.Proofs.YtagleefekmdldaaGreatDoor
open Go.Proofs.Tryz Go.RowKit
theorem xm_White (c:UInt8) (w:World) :
  Calls prog 126 #[.int .u8 c.toNat] w fun e w'=>e=.returned (.bool (Fd.z9o c))∧w'=w:=by
 have hb:(c.toNat:Int)≤255:=by have:=c.toNat_lt;omega
 go_enter func126,ntmps126;go_wp2_with fail
 all_goals (go_ret;refine⟨Z8 ?_,rfl⟩;rw[Bool.eq_iff_iff,Fd.j3e];simp;try omega)
theorem z3o (c:UInt8) (f:Bool) (w:World) :
  Calls prog 112 #[.int .u8 c.toNat,.bool f] w fun e w'=>e=.returned (.bool (Fd.z1s f c))∧w'=w:=by
 have HL:=Ld (Fd.j6p f c);have hb9:(c.toNat:Int)≤255:=by have:=c.toNat_lt;omega
 generalize Fd.z1s f c=out at HL ⊢;have walk:∀ b:Bool,Fd.t1B c=b →
   Calls prog 112 #[.int .u8 c.toNat,.bool f] w fun e w'=>e=.returned (.bool out)∧w'=w:=by
  intro b hb;rw[hb] at HL;have HB:=Ld hb;clear hb;go_enter func112,ntmps112;go_upto_region 1 with fail
  go_cut [22] (fun v wx=>v=.bool b∧w=wx)
  case first =>
   go_wp2_with fail
   all_goals
    go_meet
    case rel=>exact⟨by rw[← HB.out];congr 1;rw[Bool.eq_iff_iff,Fd.t1_iff];simp;try omega,rfl⟩
  case rest =>
  as_aux_lemma =>
  obtain⟨rfl,hwx⟩:=hcut;subst hwx
  cases b with
  | true =>
   have HE:Hid (out=true):=by show _=_;rw[HL.out];rfl
   go_wp2_with fail;go_ret;exact⟨Z8 HE.out.symm,rfl⟩
  | false =>
   cases f with
   | true =>
    have HE:Hid (out=false):=by show _=_;rw[HL.out];rfl
    go_wp2_with fail;go_ret;exact⟨Z8 HE.out.symm,rfl⟩
   | false =>
    go_wp2_with fail
    all_goals (go_ret;refine⟨Z8 ?_,rfl⟩;rw[HL.out,Bool.not_false,Bool.true_and,Bool.false_or,Bool.eq_iff_iff,Fd.t2_iff];simp;try omega)
 exact walk _ rfl
theorem q59 (s:List UInt8) (w:World) (hs:s.length≤2000000) :
  Calls prog 83 #[.string (st s)] w fun e w'=>e=.returned (.bool (Fd.X0 s))∧w'=w:=by
 have hst:∀ l:List UInt8,(st l).toList=l:=fun l=>Lib.toList_data _
 have HT:Hid (Fd.X0 s=(Fd.z2w true s && decide (s ≠ []) && decide (s.length≤20))):=rfl;have hz:(st s).size=s.length:=y9 s;have HZ:=Ld hz;clear hz;go_enter func83,ntmps83;go_wp2_with fail
 go_loopw [6] (fun i wr=>∃ k:Nat,k≤s.length∧i=.int .i64 k∧Hid (Fd.z2w true s=Fd.z2w (decide (k=0)) (s.drop k))∧Hid (w=wr)) (fun i _=>s.length - (intOf i).toNat)
 case atStart=>exact⟨0,Nat.zero_le _,rfl,rfl,by first | exact rfl | exact trivial⟩
 case round =>
  obtain⟨k,hk,rfl,HA,HW⟩:=hrel;have hw:=HW.out;clear HW;subst hw
  by_cases hlt:k < s.length
  ·have s1:k < (st s).size:=by rw[HZ.out];exact hlt
   have hget:∀ q:k < (st s).size,(st s)[k]'q=s[k]:=fun _=>rfl
   have HDB:Hid (∀ b,Fd.z1s (decide (k=0)) s[k]=b→Fd.z2w (decide (k=0)) (s.drop k)=(b && Fd.z2w (decide (k + 1=0)) (s.drop (k + 1)))):=fun b h=>by rw[Fd.q4x s k hlt];exact congrArg (fun z=>z && _) h
   have HTB:=Ld (z3o s[k] (decide (k=0)) w);have hk0:((k:Int) == 0)=decide (k=0):=by
    rw[Bool.eq_iff_iff,beq_iff_eq,decide_eq_true_iff];omega
   obtain⟨b,hb⟩:∃ b,Fd.z1s (decide (k=0)) s[k]=b:=⟨_,rfl⟩;rw[hb] at HTB;have HD:=Ld (HDB.out b hb);clear hb HDB;go_wp2_with fail;refine HTB.out.mono ?_;rintro e w1 ⟨rfl,hw1⟩;subst w1
   cases b with
   | true =>
    go_wp2_with fail;go_roundw
    case rel=>exact⟨k + 1,by omega,by go_num,by show _=_;rw[HA.out,HD.out,Bool.true_and],by first | exact rfl | exact trivial⟩
    case measure=>simp[intOf];omega
   | false =>
    have HE:Hid (Fd.X0 s=false):=by show _=_;rw[HT.out,HA.out,HD.out];rfl
    go_wp2_with fail;go_ret;exact⟨Z8 HE.out.symm,rfl⟩
  ·have hke:k=s.length:=by omega
   have HE:Hid (Fd.X0 s=(decide (s ≠ []) && decide (s.length≤20))):=by
    show _=_;rw[HT.out,HA.out,hke,List.drop_length];rfl
   clear hke HA
   rcases z7s s with ⟨e1,e2⟩ | ⟨e1,e2⟩
   ·have HF:Hid (Fd.X0 s=false):=by show _=_;rw[HE.out,decide_eq_false (fun q=>q e1)];rfl
    clear e1;go_wp2_with fail;go_ret;exact⟨Z8 HF.out.symm,rfl⟩
   ·rw[decide_eq_true e1,Bool.true_and] at HE
    clear e1
    by_cases h20:s.length≤20
    ·have s2:¬ 20 < (st s).size:=by rw[HZ.out];omega
     have s3:((st s).size:Int)≤20:=by rw[HZ.out];omega
     rw[decide_eq_true h20] at HE;go_wp2_with fail;go_ret;exact⟨Z8 (by rw[HE.out]),rfl⟩
    ·have s3:¬ ((st s).size:Int)≤20:=by rw[HZ.out];omega
     rw[decide_eq_false h20] at HE;go_wp2_with fail;go_ret;exact⟨Z8 (by rw[HE.out]),rfl⟩
end Go.Proofs.YtagleefekmdldaaGreatDoor
namespace Fd
def Sh.none:Sh:=⟨[],[]⟩
structure Ac where
 kind:Int
 text:Bs
 base:Bs
structure Dr where
 s:Bs
 short:Bool
def q4t (of:Bs) (r:Dr):UInt8 × Dr :=
 match r.s with
 | []=>(0,⟨[],true⟩)
 | c :: t=>if of.contains c then (c,⟨t,r.short⟩) else (0,⟨[],true⟩)
def tenD:Bs:=[48,49,50,51,52,53,54,55,56,57]
def digD:Nat→Int→Dr→Int × Dr
 | 0,n,r=>(n,r)
 | k + 1,n,r=>digD k (10 * n + max 0 ((((q4t tenD r).1.toNat:Nat):Int) - 48)) (q4t tenD r).2
def z5r (many:Nat) (most:Int) (r:Dr):Int × Dr :=
 let x:=digD many 0 r
 (x.1,⟨x.2.s,x.2.short || decide (most < x.1)⟩)
def clockD (r:Dr):Int × Dr :=
 let h:=z5r 2 23 r
 let m:=z5r 2 59 (q4t [58] h.2).2
 let z:=z5r 2 59 (q4t [58] m.2).2
 (3600 * h.1 + 60 * m.1 + z.1,z.2)
def zoneD (between:Bs) (r:Dr):Int × Dr :=
 let g:=q4t [43,45] r
 let h:=z5r 2 23 g.2
 let m:=z5r 2 59 (if between=[] then h.2 else (q4t between h.2).2)
 ((if g.1=45 then -1 else 1) * (3600 * h.1 + 60 * m.1),m.2)
def restD:Nat→Int→Int→Int
 | 0,_,n=>n
 | k + 1,y,n=>restD k y n + long y (k + 1)
def daysD (y m d:Int):Int:=restD (m - 1).toNat y (ahead y - ahead 1970 + d - 1)
def toldD (y m d clock zone:Int) (r:Dr):Int × Int :=
 if r.short=true∨r.s ≠ [] then (0,1)
 else if m < 1∨12 < m∨d < 1∨long y m < d then (0,3)
 else if 86400 * daysD y m d + clock - zone < 0∨4102444799 < 86400 * daysD y m d + clock - zone then (0,3)
 else (86400 * daysD y m d + clock - zone,0)
def webD (s:Bs):Int × Int :=
 let y:=z5r 4 9999 ⟨s,false⟩
 let m:=z5r 2 99 (q4t [45] y.2).2
 let d:=z5r 2 99 (q4t [45] m.2).2
 let c:=clockD (q4t [84] d.2).2
 if c.2.s=[90] then toldD y.1 m.1 d.1 c.1 0 ⟨[],c.2.short⟩
 else toldD y.1 m.1 d.1 c.1 (zoneD [58] c.2).1 (zoneD [58] c.2).2
structure Nd where
 name:Bs
 ats:List Mk.At
 text:Bs
 kids:Mk.Fo
def Nd.none:Nd:=⟨[],[],[],.nil⟩
def xmlM (s:Bs):El × Int:=if 3000 < s.length then (⟨[],[],.nil⟩,2) else xmlR s
example:webD [50,48,48,48,45,48,50,45,50,57,84,49,50,58,51,48,58,48,48,43,48,49,58,51,48]=(951822000,0):=by decide +kernel
example:(webD [49,57,57,57,45,48,50,45,50,57,84,48,48,58,48,48,58,48,48,90]).2=3:=by decide +kernel
end Fd
namespace Fd
open Mk
theorem z7j (l:List At):l.length≤(written l).length:=by
 induction l with
 | nil=>exact Nat.zero_le _
 | cons a l ih=>rw[z2k];simp;omega
def XOk:Fo→Int→Bool→Prop
 | .nil,_,_=>True
 | .node n a t k r,deep,prev =>
  if n=[] then prev=false∧t ≠ []∧a=[]∧k=.nil∧XOk r deep true
  else X0 n=true∧t=[]∧deep≤8∧J3 X0 [] a=0∧XOk k (deep + 1) false∧XOk r deep false
def oneB (n:Bs) (a:List At) (t:Bs) (k:Fo):Bs:=if n=[] then Mk.put t else [60]++n++Mk.written a++(if k=.nil then [47,62] else [62]++xmlB k++[60,47]++n++[62])
theorem z8e (n:Bs) (a:List At) (t:Bs) (k r:Fo):xmlB (.node n a t k r)=oneB n a t k++xmlB r:=rfl
theorem z9p (l:List At):(Mk.written l).length≤6 * Fo.atB l:=by
 induction l with
 | nil=>exact Nat.zero_le _
 | cons a l ih =>
  rw[Mk.z2k];have:=Mk.j5y a.v;have e:Fo.atB (a :: l)=1 + a.n.length + a.v.length + Fo.atB l:=rfl;rw[e];simp only [List.length_cons,List.length_append];omega
theorem q0c:∀ f:Fo,(xmlB f).length≤12 * Fo.bulk f
 | .nil=>Nat.zero_le _
 | .node n a t k r=>by
  have h1:=q0c k;have h2:=q0c r;have h3:=z9p a;have h4:=Mk.j5y t;have e:Fo.bulk (.node n a t k r)=1 + n.length + t.length + Fo.atB a + Fo.bulk k + Fo.bulk r:=rfl;rw[z8e,e,List.length_append];unfold oneB
  split
  ·omega
  ·split
   ·simp only [List.length_append,List.length_cons,List.length_nil];omega
   ·simp only [List.length_append,List.length_cons,List.length_nil];omega
end Fd
namespace Go.Proofs.YtagleefekmdldaaGreatDoor
open Go.Proofs.Tryz Go.RowKit
theorem xm_bytes (N:Nat):∀ (n:List UInt8) (a:List Mk.At) (t:List UInt8) (k:Mk.Fo),k.bulk < N→n.length + t.length + Mk.Fo.atB a + k.bulk≤33554432→∀ (va vk:Value) (K:Nat→Prop) (w:World),AtsV w K va a→FoV w K vk k→(∀ b,K b→b < w.heap.size) →
  Calls prog 51 #[z0d n va t vk] w fun e w'=>e=.returned (.string (st (Fd.oneB n a t k)))∧Below w.heap.size w w':=by
 induction N with
 | zero=>intro n a t k h;omega
 | succ N ih =>
  intro n a t k hN hl va vk K w hva hvk hK;have hst:∀ l:List UInt8,(st l).toList=l:=fun l=>Lib.toList_data _
  have HIH:=Ld ih;clear ih;have HO:Hid (Fd.oneB n a t k=if n=[] then Mk.put t else [60]++n++Mk.written a++(if k=.nil then [47,62] else [62]++Fd.xmlB k++[60,47]++n++[62])):=rfl;generalize Fd.oneB n a t k=out at HO ⊢;obtain⟨g,o,cap,hv1,hlen,hat⟩:=hvk.at_
  have HAT:=Ld hat
  obtain⟨aoa,capa,hva1,_⟩:=id hva;subst hva1;obtain⟨aok,capk,xsk,hvk1,_⟩:=id hvk;subst hvk1;have hfl:=Mk.Fo.z0m k;have hxl:=Fd.q0c k;have hwl:=Fd.z9p a;have HV1:=Ld hv1;have hal:=(Below.refl w.heap.size w).alloc (Lr) (.cells #[.string (st n),.slice aoa a.length capa,.string (st t),.slice aok k.len capk] 38);have AL:=Ld hal;have NB:=Ld (Blk.new w 38 #[.string (st n),.slice aoa a.length capa,.string (st t),.slice aok k.len capk]);have HTO:=Ld (fun W=>q15 t W (by omega));have HWR:Hid (∀ W,Below w.heap.size w W→Calls prog 70 #[.slice aoa a.length capa] W fun e w'=>e=.returned (.string (st (Mk.written a)))∧Below W.heap.size W w'):=fun W hW=>q3m a _ K W (hva.below hK hW) (fun b q=>Nat.lt_of_lt_of_le (hK b q) hW.size) (fun x hx=>q1w _ (by have:=Mk.q0k hx;omega)) (by omega)
  clear hal hat hva hvk hv1;unfold z0d;go_enter func51,ntmps51;go_upto_region 1 with fail;obtain⟨X,hX⟩:∃ X,X=w.heap.size:=⟨_,rfl⟩;rw[← hX] at NB;rw[← hX];generalize w.alloc (.cells #[.string (st n),.slice aoa a.length capa,.string (st t),.slice aok k.len capk] 38)=w1 at AL NB ⊢;clear hX;have p0:w1.cell? ⟨X,0,none⟩=some (.string (st n)):=Blk.cell NB.out 0;have p1:w1.cell? ⟨X,1,none⟩=some (.slice aoa a.length capa):=Blk.cell NB.out 1;have p2:w1.cell? ⟨X,2,none⟩=some (.string (st t)):=Blk.cell NB.out 2
  rcases z7s n with ⟨e1,e2⟩ | ⟨e1,e2⟩
  ·as_aux_lemma =>
   rw[if_pos e1] at HO;clear e1;go_wp2_with fail;refine(HTO.out _).mono ?_;rintro e w2 ⟨rfl,hb2⟩;have B2:=Ld (AL.out.trans (hb2.mono AL.out.size));clear hb2;go_wp2_with fail;go_ret;exact⟨by (rw[HO.out]) <;> rfl,B2.out⟩
  rw[if_neg e1] at HO;clear e1;go_upto_region 3 with fail;have HW1:=Ld (HWR.out w1.drew AL.out.drew);have HSX:Hid ((w1.drew.cell? ⟨X,0,none⟩=some (.string (st n))∧w1.drew.cell? ⟨X,1,none⟩=some (.slice aoa a.length capa))∧∀ W,Below w1.heap.size w1.drew W→(W.cell? ⟨X,0,none⟩=some (.string (st n))∧W.cell? ⟨X,1,none⟩=some (.slice aoa a.length capa))) :=
   ⟨⟨Blk.cell (Blk.drew NB.out) 0,Blk.cell (Blk.drew NB.out) 1⟩,fun W hW=>⟨Blk.cell (Blk.below (Blk.drew NB.out) hW NB.out.lt) 0,Blk.cell (Blk.below (Blk.drew NB.out) hW NB.out.lt) 1⟩⟩
  have q1:¬ 9223372036854775807 < 1 + (st n).size:=by rw[y9];omega
  have q2:¬ 9223372036854775807 < 1 + (st n).size + (st (Mk.written a)).size:=by rw[y9,y9];omega
  have q3:¬ 9223372036854775807 < (⟨#[60]⟩:ByteArray).size + (st n).size:=by rw[y9];show ¬ _ < 1 + _;omega
  have q4:¬ 9223372036854775807 < ((⟨#[60]⟩:ByteArray)++st n).size + (st (Mk.written a)).size:=by rw[y9,show (⟨#[60]⟩:ByteArray)++st n=st (60 :: n) from z19 (st [60]) (st n),y9];simp;omega
  clear p0 p1 p2
  go_cut [3] (fun x wx=>x=.string (st ([60]++n++Mk.written a))∧Hid (Below w1.heap.size w1 wx))
  case first =>
   as_aux_lemma =>
   go_region_held3 (fun w'=>w'.cell? ⟨X,0,none⟩=some (.string (st n))∧w'.cell? ⟨X,1,none⟩=some (.slice aoa a.length capa)) (first
    | exact HSX.out.1
    | exact HSX.out.2 _ hb2) (first
    | (go_at_call 70;with_reducible refine HW1.out.mono ?_;rintro e w2 ⟨rfl,hb2⟩))
   all_goals
    go_wp2_with fail;go_meet
    case rel=>exact⟨rfl,(Below.refl _ w1).drew.trans hb2⟩
  case rest =>
  as_aux_lemma =>
  obtain⟨rfl,B12⟩:=hcut;obtain⟨w2,hw2⟩:∃ z,z=wc:=⟨_,rfl⟩;subst hw2;have B2:=Ld (AL.out.trans (B12.out.mono AL.out.size));have NB2:=Ld (Blk.below NB.out B12.out NB.out.lt);clear HW1 HSX q1 q2 q3 q4 B12 NB AL HWR HTO;have p3:w2.cell? ⟨X,3,none⟩=some (.slice aok k.len capk):=Blk.cell NB2.out 3;obtain⟨s0,hs0⟩:∃ s0,[60]++n++Mk.written a=s0:=⟨_,rfl⟩;rw[hs0] at HO ⊢;have hsl:s0.length≤1 + n.length + 6 * Mk.Fo.atB a:=by rw[← hs0];simp only [List.length_append,List.length_cons,List.length_nil];omega
  clear hs0 hwl
  by_cases hk:k=.nil
  ·as_aux_lemma =>
   rw[if_pos hk] at HO;have hkb:((k.len:Int) == 0)=true:=by rw[hk];rfl
   have q5:¬ 9223372036854775807 < (st s0).size + (⟨#[47,62]⟩:ByteArray).size:=by rw[y9];show ¬ _ < _ + 2;omega
   have q6:¬ 9223372036854775807 < (st s0).size + 2:=by rw[y9];omega
   have hap:st s0++(⟨#[47,62]⟩:ByteArray)=st (s0++[47,62]):=z19 (st s0) (st [47,62]);have HAP:=Ld hap;clear hk hap HAT HV1;go_wp2_with fail;go_ret;exact⟨by rw[HO.out,← HAP.out];rfl,B2.out⟩
  rw[if_neg hk] at HO;have hkb:((k.len:Int) == 0)=false:=beq_eq_false_iff_ne.2 (by have:=z16 k hk;omega)
  rcases HV1.out with ⟨hq,hKg⟩ | ⟨ao,hq,h0⟩
  case inr=>exact absurd h0 hk
  injection hq with q1 q2 q3;subst q1;have hgl:g < w.heap.size:=hK g hKg;have q5:¬ 9223372036854775807 < (st s0).size + (⟨#[62]⟩:ByteArray).size:=by rw[y9];show ¬ _ < _ + 1;omega
  have q6:¬ 9223372036854775807 < (st s0).size + 1:=by rw[y9];omega
  have HAP:Hid (st s0++(⟨#[62]⟩:ByteArray)=st (s0++[62])):=z19 (st s0) (st [62]);have HK:=Ld hK;clear hk q2 q3 HV1 hK;go_wp2_with fail;rw[HAP.out];clear q5 q6 p3 hkb
  go_loopw [3,30] (fun x i wr=>∃ (j:Nat) (cur:List UInt8),j≤k.len∧i=.int .i64 j∧x=.string (st cur)∧cur.length + 12 * (k.drop j).bulk≤1000000000∧Hid (s0++[62]++Fd.xmlB k=cur++Fd.xmlB (k.drop j))∧Hid (Below w.heap.size w wr)∧Hid (Blk wr X 38 #[.string (st n),.slice aoa a.length capa,.string (st t),.slice (some ⟨g,o,none⟩) k.len capk])) (fun _ i _=>k.len - (intOf i).toNat)
  case atStart=>exact⟨0,s0++[62],Nat.zero_le _,rfl,rfl,by rw[Mk.Fo.drop_zero,List.length_append,List.length_singleton];omega,by show _=_;rw[Mk.Fo.drop_zero],B2,NB2⟩
  case round =>
   obtain⟨j,cur,hj,rfl,rfl,hcl,HA,BL,NBR⟩:=hrel
   by_cases hlt:j < k.len
   ·obtain⟨n',a',t',kk,r,hd,hd1⟩:=Mk.Fo.z1x k j hlt
    obtain⟨va',vk',c0,c1,c2,c3,hva',hvk'⟩:=HAT.out j n' a' t' kk r hd;rw[← BL.out.cell (p:=⟨g,_,none⟩) hgl] at c0 c1 c2 c3;obtain⟨aoa',capa',hva1',_⟩:=id hva';obtain⟨aok',capk',xsk',hvk1',_⟩:=id hvk';subst hva1';subst hvk1';have hdb:(k.drop j).bulk=1 + n'.length + t'.length + Mk.Fo.atB a' + kk.bulk + r.bulk:=by rw[hd];rfl
    have hdb2:=Mk.Fo.z0s k j;have hone:(Fd.oneB n' a' t' kk).length≤12 * (1 + n'.length + t'.length + Mk.Fo.atB a' + kk.bulk):=by
     have:=Fd.q0c (.node n' a' t' kk .nil);rw[Fd.z8e,List.length_append] at this;have e:Mk.Fo.bulk (.node n' a' t' kk .nil)=1 + n'.length + t'.length + Mk.Fo.atB a' + kk.bulk + 0:=rfl;rw[e] at this;omega
    have hal1:=(Below.refl wr.heap.size wr).alloc (Lr) (.cells #[.string (st n'),.slice aoa' a'.length capa',.string (st t'),.slice aok' kk.len capk'] 38);have BL1:=Ld (BL.out.trans (hal1.mono BL.out.size));have NB1:=Ld (Blk.alloc NBR.out (.cells #[.string (st n'),.slice aoa' a'.length capa',.string (st t'),.slice aok' kk.len capk'] 38));have QB:=Ld (Blk.new wr 38 #[.string (st n'),.slice aoa' a'.length capa',.string (st t'),.slice aok' kk.len capk']);have HC:=Ld (HIH.out n' a' t' kk (by omega) (by omega) _ _ K (wr.alloc (.cells #[.string (st n'),.slice aoa' a'.length capa',.string (st t'),.slice aok' kk.len capk'] 38)) (hva'.below HK.out BL1.out) (hvk'.below HK.out BL1.out) (fun b hb=>Nat.lt_of_lt_of_le (HK.out b hb) BL1.out.size));have HN:Hid (s0++[62]++Fd.xmlB k=(cur++Fd.oneB n' a' t' kk)++Fd.xmlB (k.drop (j + 1))):=by show _=_;rw[HA.out,hd,hd1,Fd.z8e];simp only [List.append_assoc]
    generalize Fd.oneB n' a' t' kk=ob at HC HN hone;have hcl2:(cur++ob).length + 12 * (k.drop (j + 1)).bulk≤1000000000:=by rw[hd1,List.length_append];omega
    have hji:(j:Int) < k.len:=by omega
    unfold z0d at HC;clear HA hd hd1 hva' hvk' hal1 NBR;go_upto_region 10 with fail;generalize wr.alloc (.cells #[.string (st n'),.slice aoa' a'.length capa',.string (st t'),.slice aok' kk.len capk'] 38)=w3 at BL1 QB HC NB1 ⊢;have q0:w3.cell? ⟨wr.heap.size,0,none⟩=some (.string (st n')):=Blk.cell QB.out 0;have q1:w3.cell? ⟨wr.heap.size,1,none⟩=some (.slice aoa' a'.length capa'):=Blk.cell QB.out 1;have q2:w3.cell? ⟨wr.heap.size,2,none⟩=some (.string (st t')):=Blk.cell QB.out 2;have q3:w3.cell? ⟨wr.heap.size,3,none⟩=some (.slice aok' kk.len capk'):=Blk.cell QB.out 3;clear c0 c1 c2 c3;have hsum:¬ 9223372036854775807 < (st cur).size + (st ob).size:=by rw[y9,y9];omega
    go_wp2_with fail;refine HC.out.mono ?_;rintro e w4 ⟨rfl,hb4⟩;have BL4:=Ld (BL1.out.trans (hb4.mono BL1.out.size));have NB4:=Ld (Blk.below NB1.out hb4 NB1.out.lt);clear hb4 HC q0 q1 q2 q3 NB1;go_wp2_with fail;rw[show st cur++st ob=st (cur++ob) from z19 (st cur) (st ob)];go_roundw
    case rel=>exact⟨j + 1,_,by omega,by go_num,rfl,hcl2,HN,BL4,NB4⟩
    case measure=>simp[intOf];omega
   ·have hje:j=k.len:=by omega
    have HE:Hid (s0++[62]++Fd.xmlB k=cur):=by show _=_;rw[HA.out,hje,Mk.Fo.z2v];exact List.append_nil _
    have hji:¬ (j:Int) < k.len:=by omega
    have r0:wr.cell? ⟨X,0,none⟩=some (.string (st n)):=Blk.cell NBR.out 0;have hcl3:cur.length≤1000000000:=by omega
    have s1:¬ 9223372036854775807 < (st cur).size + 2:=by rw[y9];omega
    have s2:¬ 9223372036854775807 < (st cur).size + 2 + (st n).size:=by rw[y9,y9];omega
    have s3:¬ 9223372036854775807 < (st cur).size + 2 + (st n).size + 1:=by rw[y9,y9];omega
    have HAP2:Hid (st cur++(⟨#[60,47]⟩:ByteArray)++st n++(⟨#[62]⟩:ByteArray)=st (cur++[60,47]++n++[62])):=by
     show _=_;rw[show st cur++(⟨#[60,47]⟩:ByteArray)=st (cur++[60,47]) from z19 (st cur) (st [60,47]),show st (cur++[60,47])++st n=st (cur++[60,47]++n) from z19 _ _,show st (cur++[60,47]++n)++(⟨#[62]⟩:ByteArray)=st (cur++[60,47]++n++[62]) from z19 _ (st [62])]
    have HF:Hid (out=cur++[60,47]++n++[62]):=by show _=_;rw[HO.out,← HE.out];simp only [List.append_assoc]
    clear HA hje HE HO hcl;go_wp2_with fail;go_ret;exact⟨by rw[HF.out,← HAP2.out];rfl,BL.out⟩
end Go.Proofs.YtagleefekmdldaaGreatDoor
namespace Fd
theorem j3p (p:Bs) (hp:p ≠ []) (l:Bs):z00 p l=if Go.Lib.index l p = -1 then none else some (l.take (Go.Lib.index l p).toNat,l.drop ((Go.Lib.index l p).toNat + p.length)):=by
 induction l with
 | nil =>
  cases p with
  | nil=>exact absurd rfl hp
  | cons _ _=>rfl
 | cons c t ih =>
  have hpre:Mg.pre p (c :: t)=p.isPrefixOf (c :: t):=by
   unfold Mg.pre;rw[Bool.eq_iff_iff,List.isPrefixOf_iff_prefix,beq_iff_eq,List.prefix_iff_eq_take];exact eq_comm
  unfold z00 Go.Lib.index;rw[hpre]
  cases h:p.isPrefixOf (c :: t) with
  | true=>simp
  | false =>
   rw[ih];have hge:=Go.Lib.index_ge t p
   by_cases h1:Go.Lib.index t p = -1
   ·simp[h1]
   ·have h2:(Go.Lib.index t p == -1)=false:=beq_eq_false_iff_ne.2 h1
    have h3:¬ (Go.Lib.index t p + 1 = -1):=by omega
    rw[h2];simp only [Bool.false_eq_true,if_false,if_neg h1,if_neg h3,Option.map_some];rw[show (Go.Lib.index t p + 1).toNat=(Go.Lib.index t p).toNat + 1 by omega,show (Go.Lib.index t p).toNat + 1 + p.length=((Go.Lib.index t p).toNat + p.length) + 1 by omega,List.drop_succ_cons,List.take_succ_cons]
end Fd
namespace Go.Proofs.YtagleefekmdldaaGreatDoor
open Go.Proofs.Tryz Go.RowKit
abbrev GaveX (e:Int):Ending:=.panicked [{ v:=.iface 25 (.int .i64 e),recovered:=false }]
theorem z3g (e:Int) (w:World):Calls prog 65 #[.int .i64 e] w fun x w'=>x=GaveX e∧w'=w:=by
 go_enter func65,ntmps65;go_wp2_with fail;exact⟨rfl,rfl,rfl⟩
def Xr (w:World) (R:Nat) (s:ByteArray) (k:Nat):Prop:=Blk w R 102 #[.string s,.int .i64 k]
section
variable {w w' : World} {R : Nat} {s : ByteArray} {k : Nat}
theorem Xr.c0 (h:Xr w R s k):w.cell? ⟨R,0,none⟩=some (.string s):=Blk.cell h 0
theorem Xr.c1 (h:Xr w R s k):w.cell? ⟨R,1,none⟩=some (.int .i64 k):=Blk.cell h 1
theorem Xr.fz (h:Xr w R s k) (i:Nat):w.frozen? ⟨R,i,none⟩=false:=Blk.frozen h i
theorem Xr.drewN (h:Xr w R s k) (n:Nat):Xr (w.drewN n) R s k:=Blk.drewN h n
theorem Xr.at_ (h:Xr w R s k) (j:Nat):Xr (w.setCell ⟨R,1,none⟩ (.int .i64 j)) R s j:=Blk.set_ h 1 _
theorem z4l (p:List UInt8) (h:Xr w R s k) (hk:k≤s.size) (hs:s.size≤1048576) :
  Calls prog 101 #[.pointer (some ⟨R,0,none⟩),.string (st p)] w fun e w'=>e=.returned (.bool (Mg.pre p (s.data.toList.drop k)))∧∃ n,w'=w.drewN n:=by
 have c0:=h.c0;have c1:=h.c1;have hk1:(k:Int)≤s.size:=by omega
 have hsp:=fun W=>z2o (s.extract k s.size) p W
 rw[show (s.extract k s.size).data.toList=s.data.toList.drop k from by rw[Z4,z0b,List.take_of_length_le (by rw[List.length_drop,bs_len];omega)]] at hsp;have HSP:=Ld hsp;clear hsp;go_enter func101,ntmps101;go_wp2_with fail
 go_quiet ((go_at_call 130;exact(HSP.out _).mono fun e w'' hh=>⟨hh.1,_,hh.2.symm⟩))
 go_wp2_with fail;go_ret;exact⟨rfl,_,rfl⟩
theorem j7d (p:List UInt8) (h:Xr w R s k) (hk:k≤s.size) (hs:s.size≤1048576) :
  Calls prog 98 #[.pointer (some ⟨R,0,none⟩),.string (st p)] w fun e w'=>(Mg.pre p (s.data.toList.drop k)=true∧k + p.length≤s.size∧e=.returned (.tuple #[])∧Xr w' R s (k + p.length)∧Moved R w w')∨(Mg.pre p (s.data.toList.drop k)=false∧e=GaveX 1∧∃ n,w'=w.drewN n):=by
 have HB:=Ld (z4l p h hk hs);have HX:=Ld h;clear h;obtain⟨b,hb⟩:∃ b,Mg.pre p (s.data.toList.drop k)=b:=⟨_,rfl⟩;rw[hb] at HB ⊢;have HBB:=Ld hb;clear hb
 cases b with
 | false =>
  go_enter func98,ntmps98;go_wp2_with fail;refine HB.out.mono ?_;rintro e w1 ⟨rfl,n,hw1⟩;subst hw1;go_wp2_with fail;refine(z3g 1 _).mono ?_;rintro e w2 ⟨rfl,hw2⟩;subst w2;go_wp2_with fail;exact⟨rfl,.inr ⟨(by first | rfl | trivial),rfl,n,rfl⟩⟩
 | true =>
  have hpl:k + p.length≤s.size:=by
   have h1:=HBB.out;unfold Mg.pre at h1;have h2:(s.data.toList.drop k).take p.length=p:=by simpa using h1
   have h3:=congrArg List.length h2;rw[List.length_take,List.length_drop,bs_len] at h3;omega
  have HPZ:Hid ((st p).size=p.length):=y9 p;have hz1:(st p).size≤1048576:=by rw[HPZ.out];omega
  go_enter func98,ntmps98;go_wp2_with fail;refine HB.out.mono ?_;rintro e w1 ⟨rfl,n,hw1⟩;subst hw1;have X1:=HX.out.drewN n;have d1:=X1.c1;have g1:=X1.fz 1;have X2:=Ld X1;clear X1;go_wp2_with fail;go_end0;refine .inl ⟨(by first | rfl | trivial),hpl,rfl,?_,((Moved.refl R w).drewN n).setCell 1 _⟩;have:=X2.out.at_ (k + p.length)
  rw[show ((k:Int) + ((st p).size:Int))=((k + p.length:Nat):Int) by rw[HPZ.out];omega];exact this
theorem xr_to (p:List UInt8) (hg:Gl w) (h:Xr w R s k) (hk:k≤s.size) (hs:s.size≤1048576) (hp:p ≠ []) (hpl:p.length≤3) :
  Calls prog 127 #[.pointer (some ⟨R,0,none⟩),.string (st p)] w fun e w'=>(Fd.z00 p (s.data.toList.drop k)=none∧e=GaveX 1∧∃ n,w'=w.drewN n)∨∃ a j,Fd.z00 p (s.data.toList.drop k)=some (a,s.data.toList.drop j)∧e=.returned (.string (st a))∧k < j∧j≤s.size∧Xr w' R s j∧Moved R w w':=by
 have c0:=h.c0;have c1:=h.c1;have f1:=h.fz 1;have HX:=Ld h;have hk1:(k:Int)≤s.size:=by omega
 have HA:=Ld (Fd.j3p p hp (s.data.toList.drop k));have hd:(s.extract k s.size).data.toList=s.data.toList.drop k:=by rw[Z4,z0b,List.take_of_length_le (by rw[List.length_drop,bs_len];omega)]
 obtain⟨mm,hmm⟩:=hg.ml;have hc:=fun n=>Tryz.strings_Index (s.extract k s.size) (st p) mm (w.drewN n) (by rw[show (s.extract k s.size).size=(s.extract k s.size).data.toList.length from (bs_len _).symm,hd,List.length_drop,bs_len];omega) hmm
 rw[hd,z0b] at hc;have hge:=Lib.index_ge (s.data.toList.drop k) p;have hrm:=fun q=>Lib.index_room (s.data.toList.drop k) p q
 generalize Lib.index (s.data.toList.drop k) p=ix at hc hge HA hrm;have HC:=Ld hc;have HPZ:Hid ((st p).size=p.length):=y9 p;have h2:=List.length_pos_iff.2 hp;have HRM:=Ld hrm;clear hc hd hmm h hrm hp
 by_cases hi:ix = -1
 ·have HE:Hid (Fd.z00 p (s.data.toList.drop k)=none):=by show _=_;rw[HA.out,if_pos hi]
  subst hi;clear HA HRM;go_enter func127,ntmps127;go_wp2_with fail
  go_quiet ((go_at_call 144;exact(HC.out _).mono fun e w'' hh=>⟨hh.1,_,hh.2⟩))
  go_wp2_with fail;refine(z3g 1 _).mono ?_;rintro e w2 ⟨rfl,hw2⟩;subst w2;go_wp2_with fail;exact⟨rfl,.inl ⟨HE.out,rfl,_,rfl⟩⟩
 ·rw[if_neg hi] at HA
  obtain⟨i,rfl⟩:∃ i:Nat,ix=i:=⟨ix.toNat,by omega⟩;rw[Int.toNat_natCast,List.drop_drop] at HA;have hil:k + i + p.length≤s.size:=by
   have h1:=HRM.out (by omega);rw[List.length_drop,bs_len] at h1;omega
  clear hi hge HRM;have hi1:(k:Int) + i≤s.size:=by omega
  have hwi:IntKind.i64.wrap ((k:Int) + i)=(k:Int) + i:=by rw[IntKind.wrap_i64];omega
  have hx:s.extract k (k + i)=st ((s.data.toList.drop k).take i):=by rw[Z4,Nat.add_sub_cancel_left]
  go_enter func127,ntmps127;go_wp2_with fail
  go_quiet ((go_at_call 144;exact(HC.out _).mono fun e w'' hh=>⟨hh.1,_,hh.2⟩))
  go_wp2_with fail
  go_quiet (fail)
  go_wp2_with fail;have e1:wrap64 ((k:Int) + wrap64 ((i:Int) + (st p).size))=((k + (i + p.length):Nat):Int):=by
   rw[HPZ.out,w64 (n:=(i:Int) + p.length) (by omega) (by omega),w64 (by omega) (by omega)];omega
  rw[e1];go_ret;exact .inr ⟨_,_,HA.out,by rw[hx];rfl,by omega,by omega,(HX.out.drewN _).at_ _,((Moved.refl R w).drewN _).setCell 1 _⟩
end
section
variable {w w' : World} {R : Nat} {s : ByteArray} {k : Nat}
theorem q0d (h:Xr w R s k) (hk:k≤s.size) (hs:s.size≤1048576) :
  Calls prog 96 #[.pointer (some ⟨R,0,none⟩)] w fun e w'=>∃ j,k≤j∧j≤s.size∧e=.returned (.int .i64 ((j:Int) - k))∧s.data.toList.drop j=Fd.V9 (s.data.toList.drop k)∧Xr w' R s j∧Moved R w w':=by
 have c1:=h.c1;have HX:=Ld h;clear h;go_enter func96,ntmps96;go_wp2_with fail;clear c1
 go_loopg [] s.size (fun g wx=>∃ j:Nat,k≤j∧j≤s.size∧s.size≤j + g∧Hid (Fd.V9 (s.data.toList.drop k)=Fd.V9 (s.data.toList.drop j))∧Hid (Xr wx R s j)∧Hid (Moved R w wx))
 case atStart=>exact⟨k,Lr,hk,by omega,rfl,HX,Moved.refl R w⟩
 case round =>
  obtain⟨j,hkj,hjs,hfu,HS,X,MV⟩:=hrel;have c0:=X.out.c0;have c1:=X.out.c1;have f1:=X.out.fz 1
  by_cases hlt:j < s.size
  ·have hj1:(j:Int) < s.size:=by omega
   have hdr:=X6 s j hlt;have HW:=Ld (fun W=>xm_White s[j] W);have HSK:Hid (Fd.V9 (s.data.toList.drop j)=if Fd.z9o s[j] then Fd.V9 (s.data.toList.drop (j + 1)) else s.data.toList.drop j):=by
    show _=_;rw[hdr];unfold Fd.V9;rw[List.dropWhile_cons]
   obtain⟨g',rfl⟩:∃ g',gk=g' + 1:=⟨gk - 1,by omega⟩;obtain⟨b,hb⟩:∃ b,Fd.z9o s[j]=b:=⟨_,rfl⟩;rw[hb] at HW HSK;clear hb hdr
   cases b with
   | true =>
    go_wp2_with fail
    go_quiet ((go_at_call 126;exact Calls.quiet_of_same (HW.out _)))
    go_wp2_with fail
    go_roundg g'
    case measure=>omega
    case rel=>exact⟨j + 1,by omega,by omega,by omega,by show _=_;rw[HS.out,HSK.out];simp,by show Xr _ _ _ _;have:=(X.out.drewN nq).at_ (j + 1);simpa using this,(MV.out.drewN _).setCell 1 _⟩
   | false =>
    go_wp2_with fail
    go_quiet ((go_at_call 126;exact Calls.quiet_of_same (HW.out _)))
    go_wp2_with fail;go_ret;exact⟨j,hkj,hjs,by rfl,by rw[HS.out,HSK.out];simp,X.out.drewN _,MV.out.drewN _⟩
  ·have hj1:¬ (j:Int) < s.size:=by omega
   have hke:j=s.size:=by omega
   have HE:Hid (s.data.toList.drop j=Fd.V9 (s.data.toList.drop k)):=by
    show _=_;rw[HS.out,hke,List.drop_of_length_le (by rw[bs_len];omega)];rfl
   clear hke;go_wp2_with fail
   go_quiet (fail)
   go_wp2_with fail;go_ret;exact⟨j,hkj,hjs,by rfl,HE.out,X.out.drewN _,MV.out.drewN _⟩
end
end Go.Proofs.YtagleefekmdldaaGreatDoor
