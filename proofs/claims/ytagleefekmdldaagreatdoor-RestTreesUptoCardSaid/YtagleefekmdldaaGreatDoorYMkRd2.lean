/- Contracts of the token reader's small methods: pass, need, begins, letterAt, to. Condition: a text of at most 1048576 bytes. -/
import Derived.Test.YtagleefekmdldaaGreatDoorYMkPu
import Derived.Deep.CutBlock
import Derived.Deep.DeepCutAuto
set_option linter.unusedVariables false
set_option linter.unusedSimpArgs false
set_option maxHeartbeats 2000000
namespace Mk
def z4b (q:UInt8→Bool):Bs→Bool | []=>false | c :: _=>q c
theorem q0o (p:Bs) (hp:p ≠ []) (l:Bs):behind p l=if Go.Lib.index l p = -1 then none else some (l.drop ((Go.Lib.index l p).toNat + p.length)):=by
 induction l with
 | nil =>
  cases p with
  | nil=>exact absurd rfl hp
  | cons _ _=>rfl
 | cons c t ih =>
  have hpre:Mg.pre p (c :: t)=p.isPrefixOf (c :: t):=by
   unfold Mg.pre;rw[Bool.eq_iff_iff,List.isPrefixOf_iff_prefix,beq_iff_eq,List.prefix_iff_eq_take];exact eq_comm
  unfold behind Go.Lib.index;rw[hpre]
  cases h:p.isPrefixOf (c :: t) with
  | true=>simp
  | false =>
   rw[ih];have hge:=Go.Lib.index_ge t p
   by_cases h1:Go.Lib.index t p = -1
   ·simp[h1]
   ·have h2:(Go.Lib.index t p == -1)=false:=beq_eq_false_iff_ne.2 h1
    have h3:¬ (Go.Lib.index t p + 1 = -1):=by omega
    rw[h2];simp only [Bool.false_eq_true,if_false,if_neg h1,if_neg h3]
    congr 1
    rw[show (Go.Lib.index t p + 1).toNat + p.length=((Go.Lib.index t p).toNat + p.length) + 1 by omega,List.drop_succ_cons]
end Mk
namespace Go.Proofs.YtagleefekmdldaaGreatDoor
open Go.Proofs.Tryz Go.RowKit
def j5n:Value:=.iface 127 (.agg #[])
abbrev Gave:Ending:=.panicked [{ v:=j5n,recovered:=false }]
section
variable {w : World} {R : Nat} {s : ByteArray} {k : Nat} {tx : List UInt8} {ov : Value}
theorem Rd.shape (h:Rd w R s k tx ov):w.shape? R=some (88,4):=by
 have:w.heap[R]? = _:=h;simp[World.shape?,this]
theorem q4p (g:FuncId) (lb:Array Value) (q:UInt8→Bool) (eg:∀ args w,(callFunc g args).run prog w=.ok (.enter g args) w) (h:Rd w R s k tx ov) (hq:∀ n,Asks g lb q (w.drewN n)) :
  Calls prog 138 #[.pointer (some ⟨R,0,none⟩),.func (.func g) #[] lb] w fun e w'=>e=.returned (.bool (Mk.z4b q (s.data.toList.drop k)))∧∃ n,w'=w.drewN n:=by
 by_cases hk:k < s.size
 ·rw[X6 s k hk];exact j2h g lb q eg h hk hq
 ·rw[List.drop_of_length_le (by simp;omega)];exact q8d _ h (by omega)

def atOf (w:World) (R:Nat):Nat:=match w.cell? ⟨R,1,none⟩ with | some (.int _ n)=>n.toNat | _=>0
theorem Rd.atOf (h:Rd w R s k tx ov):atOf w R=k:=by unfold Go.Proofs.YtagleefekmdldaaGreatDoor.atOf;rw[h.c1];exact Int.toNat_natCast k

theorem z3v (g:FuncId) (lb:Array Value) (q:UInt8→Bool) (eg:∀ args w,(callFunc g args).run prog w=.ok (.enter g args) w) (h:Rd w R s k tx ov) (hk:k≤s.size) (hs:s.size≤1048576) (hq:∀ w',Moved R w w'→Asks g lb q w') :
  Calls prog 114 #[.pointer (some ⟨R,0,none⟩),.func (.func g) #[] lb] w fun e w'=>e=.returned (.string (st ((s.data.toList.drop k).takeWhile q)))∧Rd w' R s (k + ((s.data.toList.drop k).takeWhile q).length) tx ov∧Moved R w w':=by
 have c1:=h.c1;go_enter func114,ntmps114;go_wp2_with fail;have HQ:=Ld hq;clear hq
 go_loopw [12] (fun _ wr=>∃ j,k≤j∧j≤s.size∧Hid (Rd wr R s j tx ov)∧Hid (Moved R w wr)∧Hid ((s.data.toList.drop k).takeWhile q=(s.data.toList.drop k).take (j - k)++(s.data.toList.drop j).takeWhile q)) (fun _ wr=>s.size - atOf wr R)
 case atStart=>exact⟨k,Lr,hk,h,Moved.refl R w,by show _=_;simp⟩
 case round =>
  obtain⟨j,hkj,hj,RD,MV,EQ⟩:=hrel;have d0:=RD.out.c0;have d1:=RD.out.c1;have f1:=RD.out.fz 1;obtain⟨b,hb⟩:∃ b,Mk.z4b q (s.data.toList.drop j)=b:=⟨_,rfl⟩;have hc:=q4p g lb q eg RD.out (fun n=>HQ.out _ (MV.out.drewN n));rw[hb] at hc;have HC:=Ld hc;clear hc
  cases b with
  | true =>
   have hlt:j < s.size:=by
    rcases Nat.lt_or_ge j s.size with h1 | h1
    ·exact h1
    ·rw[List.drop_of_length_le (by simp;omega)] at hb;cases hb
   have EQ2:Hid ((s.data.toList.drop k).takeWhile q=(s.data.toList.drop k).take (j + 1 - k)++(s.data.toList.drop (j + 1)).takeWhile q):=by
    show _=_;rw[X6 s j hlt] at hb;have hq1:q s[j]=true:=hb;have e1:(s.data.toList.drop k).take (j + 1 - k)=(s.data.toList.drop k).take (j - k)++[s[j]]:=by
     rw[show j + 1 - k=(j - k) + 1 by omega,List.take_add_one,List.getElem?_drop,show k + (j - k)=j by omega];rw[List.getElem?_eq_getElem (by simpa using hlt)];rfl
    rw[EQ.out,e1,X6 s j hlt,List.takeWhile_cons,if_pos hq1];simp
   clear EQ hb;go_wp2_with fail;refine HC.out.mono ?_;rintro e w1 ⟨rfl,n,rfl⟩;go_wp2_with fail;go_roundw
   case rel=>exact⟨j + 1,by omega,by omega,by show Rd _ _ _ _ _ _;have:=(RD.out.drewN n).at_ (j + 1);simpa using this,by show Moved _ _ _;have:=(MV.out.drewN n).setCell 1 (.int .i64 ((j + 1:Nat):Int));simpa using this,EQ2⟩
   case measure =>
    have e1:=RD.out.atOf;have e2:=((RD.out.drewN n).at_ (j + 1)).atOf;simp at e1 e2 ⊢;omega
  | false =>
   have e3:(s.data.toList.drop j).takeWhile q=[]:=by
    cases hd:s.data.toList.drop j with
    | nil=>rfl
    | cons c t=>rw[hd] at hb;have hq1:q c=false:=hb;rw[List.takeWhile_cons,hq1];rfl
   have EQ2:Hid ((s.data.toList.drop k).takeWhile q=(s.data.toList.drop k).take (j - k)):=by
    show _=_;rw[EQ.out,e3,List.append_nil]
   clear EQ hb e3;go_wp2_with fail;refine HC.out.mono ?_;rintro e w1 ⟨rfl,n,rfl⟩;have hkj':(k:Int)≤j:=by omega
   have hjs:(j:Int)≤s.size:=by omega
   go_wp2_with fail
   go_quiet (fail)
   go_wp2_with fail;go_ret;refine⟨?_,?_,(MV.out.drewN _).drewN _⟩
   ·rw[EQ2.out,Z4];simp
   ·have:k + ((s.data.toList.drop k).take (j - k)).length=j:=by rw[List.length_take,List.length_drop,bs_len];omega
    rw[EQ2.out,this];exact(RD.out.drewN _).drewN _

theorem z8t (h:Rd w R s k tx ov) (hk:k < s.size) (hs:s.size≤1048576) :
  Calls prog 159 #[.pointer (some ⟨R,0,none⟩)] w fun e w'=>e=.returned (.int .u8 (s[k].toNat:Int))∧Rd w' R s (k + 1) tx ov∧Moved R w w':=by
 have c0:=h.c0;have c1:=h.c1;have f1:=h.fz 1;have hne:((k:Int) == s.size)=false:=by rw[beq_eq_false_iff_ne];omega
 go_enter func159,ntmps159;go_wp2_with fail
 go_quiet (fail)
 go_wp2_with fail;have RD:Rd ((w.drewN nq).setCell ⟨R,1,none⟩ (.int .i64 ((k:Int) + 1))) R s (k + 1) tx ov:=by have:=(h.drewN nq).at_ (k + 1);simpa using this
 have MV:=((Moved.refl R w).drewN nq).setCell 1 (.int .i64 ((k:Int) + 1));have RD:=Ld RD;have MV:=Ld MV;generalize ((w.drewN nq).setCell ⟨R,1,none⟩ (.int .i64 ((k:Int) + 1)))=w1 at RD MV ⊢;have d0:=RD.out.c0;have d1:=RD.out.c1;clear c0 c1 f1;go_wp2_with fail
 go_quiet (fail)
 go_wp2_with fail;go_ret;exact⟨rfl,RD.out.drewN _,MV.out.drewN _⟩
theorem q1q (h:Rd w R s k tx ov) (hk:k=s.size) :
  Calls prog 159 #[.pointer (some ⟨R,0,none⟩)] w fun e w'=>e=Gave∧Rd w' R s k tx ov∧Moved R w w':=by
 have c0:=h.c0;have c1:=h.c1;subst hk;go_enter func159,ntmps159;go_wp2_with fail
 go_quiet (fail)
 go_wp2_with fail;exact⟨rfl,rfl,h.drewN _,(Moved.refl R w).drewN _⟩

theorem j6b (p:ByteArray) (h:Rd w R s k tx ov) (hk:k≤s.size) (hs:s.size≤1048576) :
  Calls prog 113 #[.pointer (some ⟨R,0,none⟩),.string p] w fun e w'=>e=.returned (.bool (Mg.pre p.data.toList (s.data.toList.drop k)))∧∃ n,w'=w.drewN n:=by
 have c0:=h.c0;have c1:=h.c1;have hk1:(k:Int)≤s.size:=by omega
 have hsp:=fun W=>z2o (s.extract k s.size) p.data.toList W
 rw[show (s.extract k s.size).data.toList=s.data.toList.drop k from by rw[Z4,z0b,List.take_of_length_le (by rw[List.length_drop,bs_len];omega)],st_bs] at hsp;have HSP:=Ld hsp;clear hsp;go_enter func113,ntmps113;go_wp2_with fail
 go_quiet ((go_at_call 130;exact(HSP.out _).mono fun e w'' hh=>⟨hh.1,_,hh.2.symm⟩))
 go_wp2_with fail;go_ret;exact⟨rfl,_,rfl⟩
theorem j5i (c:UInt8) (w:World) :
  Calls prog 139 #[.int .u8 c.toNat] w fun e w'=>e=.returned (.bool (Mg.isLet c))∧w=w':=by
 have hb:(c.toNat:Int)≤255:=by have:=c.toNat_lt;omega
 go_enter func139,ntmps139;go_wp2_with fail
 all_goals (go_ret;refine⟨Z8 ?_,rfl⟩;rw[Bool.eq_iff_iff,Mg.q1g];simp;try omega)
theorem q8e (m:Nat) (h:Rd w R s k tx ov) (hk:k≤s.size) (hs:s.size≤1048576) (hm:m≤2) :
  Calls prog 116 #[.pointer (some ⟨R,0,none⟩),.int .i64 m] w fun e w'=>e=.returned (.bool (Mk.z1y (s.data.toList.drop (k + m))))∧∃ n,w'=w.drewN n:=by
 have c0:=h.c0;have c1:=h.c1;obtain⟨j,hj⟩:∃ j:Nat,j=k + m:=⟨_,rfl⟩;have hw:IntKind.i64.wrap ((k:Int) + m)=j:=by rw[IntKind.wrap_i64];omega
 rw[← hj];clear hj
 by_cases hlt:j < s.size
 ·have hi:(j:Int) < s.size:=by omega
  have hl:=fun W=>j5i s[j] W
  have HL:=Ld hl;clear hl;rw[X6 s j hlt];go_enter func116,ntmps116;go_wp2_with fail
  go_quiet ((go_at_call 139;exact(HL.out _).mono fun e w'' hh=>⟨hh.1,_,hh.2.symm⟩))
  go_wp2_with fail;go_ret;exact⟨rfl,_,rfl⟩
 ·have hd:decide (j < s.size)=false:=decide_eq_false (by omega)
  rw[List.drop_of_length_le (by simp;omega)];go_enter func116,ntmps116;go_wp2_with fail
  go_quiet (fail)
  go_wp2_with fail;go_ret;exact⟨rfl,_,rfl⟩
end
end Go.Proofs.YtagleefekmdldaaGreatDoor
