/- Laws of a text with its signs put: how long it is, and the buffer that it is written into. -/
import Derived.Test.YtagleefekmdldaaGreatDoorYMkRep3
import Derived.Laws.CopyOwn
set_option linter.unusedVariables false
set_option linter.unusedSimpArgs false
namespace Mk
theorem j5w (a b:Bs):put (a++b)=put a++put b:=List.flatMap_append ..
def cntN (l:List (UInt8 × Bs)) (s:Bs):Nat:=(l.map fun x=>s.count x.1 * (x.2.length - 1)).sum
theorem cnt_all (s:Bs):cntN reps.reverse s=s.count 34 * 5 + (s.count 62 * 3 + (s.count 60 * 3 + s.count 38 * 4)):=by simp[cntN,reps]
theorem j5x:∀ s:Bs,(put s).length=s.length + cntN reps.reverse s
 | []=>rfl
 | c :: t=>by
  have ih:=j5x t;have e:put (c :: t)=esc c++put t:=rfl;rw[cnt_all] at ih ⊢;rw[e,List.length_append,ih,List.length_cons];simp only [List.count_cons];unfold esc
  by_cases h1:c=38
  ·subst h1;simp;omega
  by_cases h2:c=60
  ·subst h2;simp;omega
  by_cases h3:c=62
  ·subst h3;simp;omega
  by_cases h4:c=34
  ·subst h4;simp;omega
  ·simp[h1,h2,h3,h4];omega
theorem cnt_step (s:Bs) (k:Nat) (x:UInt8 × Bs) (h:reps.reverse[k]? = some x):cntN (reps.reverse.take (k + 1)) s=cntN (reps.reverse.take k) s + s.count x.1 * (x.2.length - 1):=by
 rw[List.take_add_one,h];simp[cntN]
theorem cnt_le (s:Bs):∀ k,k≤4→cntN (reps.reverse.take k) s≤cntN reps.reverse s:=by
 intro k hk
 match k,hk with
 | 0,_=>exact Nat.zero_le _
 | 1,_=>simp[cntN,reps]
 | 2,_=>simp[cntN,reps]
 | 3,_=>simp[cntN,reps]
 | 4,_=>exact Lr
theorem q3c:∀ s:Bs,(∀ b ∈ s,reps.lookup b=none)→put s=s
 | [],_=>rfl
 | b :: r,h=>by
  have h1:=q03 b;rw[h b (by simp)] at h1;show esc b++put r=b :: r;rw[h1,q3c r (fun x q=>h x (by simp[q]))];rfl
theorem none_put (s:Bs) (h:∀ x ∈ reps.reverse,s.count x.1=0):put s=s:=by
 refine q3c s fun b hb=>?_
 have hc:0 < s.count b:=List.count_pos_iff.2 hb;have q:∀ c n,(c,n) ∈ reps.reverse→(b == c)=false:=fun c n hm=>by
  have hz:s.count c=0:=h _ hm;rw[beq_eq_false_iff_ne];rintro rfl;omega
 simp[reps,List.lookup,q 38 [38,97,109,112,59] (by simp[reps]),q 60 [38,108,116,59] (by simp[reps]),q 62 [38,103,116,59] (by simp[reps]),q 34 [38,113,117,111,116,59] (by simp[reps])]
theorem q9j (s:Bs) (k:Nat) (h:k < s.length):put (s.take (k + 1))=put (s.take k)++esc s[k]:=by
 rw[List.take_succ_eq_append_getElem h,j5w];show _++(esc s[k]++[])=_;rw[List.append_nil]
theorem z7g (s:Bs) (k:Nat):(put (s.take k)).length≤(put s).length:=by
 have:put s=put (s.take k)++put (s.drop k):=by rw[← j5w,List.take_append_drop]
 rw[this,List.length_append];omega
theorem put_len6 (t:Bs):(put t).length≤6 * t.length:=by
 induction t with
 | nil=>exact Nat.zero_le _
 | cons c t ih =>
  have h:(esc c).length≤6:=by
   unfold esc
   repeat' split
   all_goals simp
  have e:put (c :: t)=esc c++put t:=rfl;rw[e,List.length_append,List.length_cons];omega
end Mk
namespace Go.Proofs.YtagleefekmdldaaGreatDoor
open Go.RowKit
def z1m (P:List UInt8) (T:Nat):List Value:=Lib.byteCells P++List.replicate (T - P.length) (.int .u8 0)
theorem j3v (P:List UInt8) (T:Nat) (h:P.length≤T):(z1m P T).length=T:=by simp[z1m,Lib.byteCells];omega
theorem buf_full (P:List UInt8):z1m P P.length=Lib.byteCells P:=by simp[z1m]
theorem buf_new (T:Nat):z1m [] T=List.replicate T (.int .u8 0):=by simp[z1m,Lib.byteCells]
theorem q2n (P n:List UInt8) (T:Nat) (h:P.length + n.length≤T):splice (z1m P T) P.length (Lib.byteCells n)=z1m (P++n) T:=by
 have hl:(Lib.byteCells P).length=P.length:=by simp[Lib.byteCells]
 have hn:(Lib.byteCells n).length=n.length:=by simp[Lib.byteCells]
 unfold splice z1m;rw[hn,List.take_append_of_le_length (by omega),List.take_of_length_le (by omega),List.drop_append,hl,List.drop_of_length_le (by omega),List.nil_append,List.drop_replicate,List.length_append];rw[show T - P.length - (P.length + n.length - P.length)=T - (P.length + n.length) by omega];simp[Lib.byteCells]
theorem buf_one (P:List UInt8) (b:UInt8) (T:Nat) (h:P.length < T):(z1m P T).toArray.setIfInBounds P.length (.int .u8 b.toNat)=(z1m (P++[b]) T).toArray:=by
 rw[← q2n P [b] T (by simp;omega)];have hl:P.length < (z1m P T).length:=by rw[j3v P T (by omega)];exact h
 rw[List.setIfInBounds_toArray]
 congr 1
 rw[List.set_eq_take_append_cons_drop,if_pos hl];rfl
end Go.Proofs.YtagleefekmdldaaGreatDoor
