/- Contracts of the program's shelf.Order and shelf.read. Condition on Order: times from 0 to the end of 2099. -/
import Derived.Test.YtjonkbdldebkiaaGreatDoorYWeA
import Derived.Test.YtjonkbdldebkiaaGreatDoorYUrlD
import Derived.Lib.Bytealg
set_option linter.unusedVariables false
set_option linter.unusedSimpArgs false
set_option maxHeartbeats 4000000
namespace Fd
open Go
theorem cmp_is:∀ a b:Bs,Lib.compareBytes a b=cmpB a b
 | [],[]=>rfl
 | [],_ :: _=>rfl
 | _ :: _,[]=>rfl
 | a :: x,b :: y=>by
  rw[Lib.compareBytes,cmpB,cmp_is x y]
  by_cases h:a=b
  ·subst h
   rw[if_pos rfl,if_neg (UInt8.lt_irrefl _),if_neg (UInt8.lt_irrefl _)]
  ·rw[if_neg h]
   by_cases h2:a < b
   ·rw[if_pos h2,if_pos h2]
   ·have h3:b < a:=by
     rcases UInt8.lt_or_lt_of_ne h with q | q
     ·exact absurd q h2
     ·exact q
    rw[if_neg h2,if_neg h2,if_pos h3]
theorem q88:∀ a b:Bs,Op.bytesLess a b=decide (cmpB a b < 0)
 | [],[]=>rfl
 | [],_ :: _=>rfl
 | _ :: _,[]=>rfl
 | a :: x,b :: y=>by
  rw[Op.bytesLess,cmpB,q88 x y]
  by_cases h:a=b
  ·subst h
   rw[if_pos rfl,decide_eq_false (UInt8.lt_irrefl _)];simp
  ·rw[if_neg h,beq_eq_false_iff_ne.2 h,Bool.false_and,Bool.or_false]
   by_cases h2:a < b
   ·rw[if_pos h2,decide_eq_true h2];rfl
   ·rw[if_neg h2,decide_eq_false h2];rfl
theorem leq_is (a b:Bs):(Op.bytesLess a b || a == b)=decide (cmpB a b≤0):=by
 rw[q88]
 by_cases h:a=b
 ·have:=(z6g a b).2 h
  rw[this,h];simp
 ·have:cmpB a b ≠ 0:=fun e=>h ((z6g a b).1 e)
  rw[beq_eq_false_iff_ne.2 h,Bool.or_false]
  by_cases h2:cmpB a b < 0
  ·rw[decide_eq_true h2,decide_eq_true (by omega)]
  ·rw[decide_eq_false h2,decide_eq_false (by omega)]
theorem j1h (l:List Bs) (k:Nat) (h:k < l.length):z08 (l.take k).getLast? (l.drop k)=if l[k]=[] then 1 else if 60 < l[k].length then 2 else match (l.take k).getLast? with
  | none=>z08 (l.take (k + 1)).getLast? (l.drop (k + 1))
  | some q=>if cmpB l[k] q≤0 then 4 else z08 (l.take (k + 1)).getLast? (l.drop (k + 1)):=by
 rw[List.drop_eq_getElem_cons h,z6e,List.take_succ_eq_append_getElem h,List.getLast?_append];rfl
theorem q6a {α:Type} (l:List α) (j:Nat) (h:j < l.length):(l.take (j + 1)).getLast? = some l[j]:=by
 rw[List.take_succ_eq_append_getElem h,List.getLast?_append];rfl
end Fd
namespace Go.Proofs.YtjonkbdldebkiaaGreatDoor
open Go.Proofs.Tryz Go.RowKit
theorem j05 (a b:Fd.En) (w:World) (ha:0≤a.at_) (ha2:a.at_≤4102444799) (hb:0≤b.at_) (hb2:b.at_≤4102444799) :
  Calls prog 47 #[.agg #[.string (st a.id),.string (st a.ti),.string (st a.li),.int .i64 a.at_,.string (st a.ht)],.agg #[.string (st b.id),.string (st b.ti),.string (st b.li),.int .i64 b.at_,.string (st b.ht)]] w fun e w'=>e=.returned (.int .i64 (Fd.ordE a b))∧Below w.heap.size w w':=by
 have HO:Hid (Fd.ordE a b=if a.at_=b.at_ then Fd.cmpB a.id b.id else b.at_ - a.at_):=rfl;have HC:=Ld (fun W=>Tryz.strings_Compare (st a.id) (st b.id) W);rw[show Lib.compareBytes (st a.id).data.toList (st b.id).data.toList=Fd.cmpB a.id b.id from Fd.cmp_is _ _] at HC;generalize Fd.ordE a b=c at HO ⊢;generalize Fd.cmpB a.id b.id=d at HO HC;obtain⟨id,ti,li,at_,ht⟩:=a;obtain⟨id2,ti2,li2,at2,ht2⟩:=b;simp only at HO HC ha ha2 hb hb2 ⊢;have HAL:Hid (∀ o1 o2,Below w.heap.size w ((w.alloc o1).alloc o2)):=fun o1 o2=>((Below.refl w.heap.size w).alloc (Lr) o1).alloc (by simp) o2
 by_cases h:at_=at2
 ·have HE:Hid (c=d):=by show _=_;rw[HO.out,if_pos h]
  have e1:(at_ == at2)=true:=beq_iff_eq.2 h;clear h HO;go_enter func47,ntmps47;go_wp2_with fail;refine(HC.out _).mono ?_;rintro e wx ⟨rfl,hwx⟩;subst wx;go_wp2_with fail;go_ret;exact⟨V5 (by rw[HE.out]),HAL.out _ _⟩
 ·have HE:Hid (c=at2 - at_):=by show _=_;rw[HO.out,if_neg h]
  have e1:(at_ == at2)=false:=beq_eq_false_iff_ne.2 h;clear h HO;go_enter func47,ntmps47;go_wp2_with fail;go_ret;exact⟨V5 (by rw[HE.out]),HAL.out _ _⟩
theorem sh_read (l:List (List UInt8)) (v:Value) (K:Nat→Prop) (w:World) (hv:z0n w K v l) :
  Calls prog 48 #[v] w fun e w'=>e=.returned (.int .i64 (Fd.z08 none l))∧w'=w:=by
 have hst:∀ l:List UInt8,(st l).toList=l:=fun l=>Lib.toList_data _
 obtain⟨ao,cap,hv1,hlc,hcm,hor⟩:=hv.at_
 subst hv1;have hlm:l.length≤9223372036854775807:=by unfold maxLen at hcm;omega
 have HOR:=Ld hor;clear hor hv hcm;go_enter func48,ntmps48;go_wp2_with fail
 go_loopw [7] (fun i wr=>∃ k:Nat,k≤l.length∧i=.int .i64 k∧Hid (Fd.z08 none l=Fd.z08 (l.take k).getLast? (l.drop k))∧Hid (w=wr)) (fun i _=>l.length - (intOf i).toNat)
 case atStart=>exact⟨0,Nat.zero_le _,rfl,rfl,rfl⟩
 case round =>
  obtain⟨k,hk,rfl,HL,HW⟩:=hrel;have hw:=HW.out;clear HW;subst hw
  by_cases hlt:k < l.length
  ·obtain⟨g,o,hao,hcells⟩:∃ g o,ao=some ⟨g,o,none⟩∧∀ j (hj:j < l.length),w.cell? ⟨g,o + j,none⟩=some (.string (st l[j])):=by
    rcases HOR.out with q | ⟨g,o,q1,_,q2⟩
    ·subst q;exact absurd hlt (Nat.not_lt_zero _)
    ·exact⟨g,o,q1,q2⟩
   subst hao;have c0:=hcells k hlt;have HCE:=Ld hcells;have HG:Hid (Fd.z08 none l=if l[k]=[] then 1 else if 60 < l[k].length then 2 else match (l.take k).getLast? with
     | none=>Fd.z08 (l.take (k + 1)).getLast? (l.drop (k + 1))
     | some q=>if Fd.cmpB l[k] q≤0 then 4 else Fd.z08 (l.take (k + 1)).getLast? (l.drop (k + 1))):=HL.out.trans (Fd.j1h l k hlt)
   clear hcells HL;obtain⟨s,hs⟩:∃ s,l[k]=s:=⟨_,rfl⟩;rw[hs] at c0 HG;have HS:=Ld hs;clear hs
   rcases z3c s with ⟨e1,q1⟩ | ⟨e1,q1⟩
   ·have HE:Hid (Fd.z08 none l=1):=by show _=_;rw[HG.out,if_pos e1]
    clear HG e1;go_wp2_with fail;go_ret;exact⟨V5 (by rw[HE.out]),rfl⟩
   ·rw[if_neg e1] at HG
    clear e1
    by_cases q2:60 < s.length
    ·have HE:Hid (Fd.z08 none l=2):=by show _=_;rw[HG.out,if_pos q2]
     have s2:60 < (st s).size:=by rw[Z4];exact q2
     clear HG q2;go_wp2_with fail;go_ret;exact⟨V5 (by rw[HE.out]),rfl⟩
    ·rw[if_neg q2] at HG
     have s2:¬ 60 < (st s).size:=by rw[Z4];exact q2
     clear q2
     rcases Nat.eq_zero_or_pos k with hk0 | hk0
     ·have hz:¬ (0:Int) < (k:Int):=by omega
      have HE:Hid (Fd.z08 none l=Fd.z08 (l.take (k + 1)).getLast? (l.drop (k + 1))):=by
       have h:=HG.out;rw[show (l.take k).getLast? = none by rw[hk0];rfl] at h;exact h
      clear HG hk0;go_wp2_with fail;go_roundw
      case rel=>exact⟨k + 1,by omega,by go_num,HE,by first | exact rfl | exact trivial⟩
      case measure=>simp[intOf];omega
     ·obtain⟨j,rfl⟩:∃ j,k=j + 1:=⟨k - 1,by omega⟩
      have hjl:j < l.length:=by omega
      have c1:=HCE.out j hjl;rw[Fd.q6a l j hjl] at HG;simp only at HG;obtain⟨p,hp⟩:∃ p,l[j]=p:=⟨_,rfl⟩;rw[hp] at c1 HG;clear hp;have hk0':(0:Int) < ((j + 1:Nat):Int):=by omega
      have hj1:(((j + 1:Nat):Int) - 1)=j:=by omega
      have hj2:(j:Int) < l.length:=by omega
      have hj3:(0:Int)≤j:=by omega
      by_cases q3:Fd.cmpB s p≤0
      ·have HE:Hid (Fd.z08 none l=4):=by show _=_;rw[HG.out,if_pos q3]
       have e3:(Op.bytesLess s p || s == p)=true:=by rw[Fd.leq_is,decide_eq_true q3]
       clear HG q3;go_wp2_with fail;go_ret;exact⟨V5 (by rw[HE.out]),rfl⟩
      ·have HE:Hid (Fd.z08 none l=Fd.z08 (l.take (j + 1 + 1)).getLast? (l.drop (j + 1 + 1))):=by show _=_;rw[HG.out,if_neg q3]
       have e3:(Op.bytesLess s p || s == p)=false:=by rw[Fd.leq_is,decide_eq_false q3]
       clear HG q3;go_wp2_with fail;go_roundw
       case rel=>exact⟨j + 1 + 1,by omega,by go_num,HE,by first | exact rfl | exact trivial⟩
       case measure=>simp[intOf];omega
  ·have hke:k=l.length:=by omega
   have HE:Hid (Fd.z08 none l=0):=by
    show _=_;rw[HL.out,hke,List.drop_length];rfl
   clear hke HL;go_wp2_with fail;go_ret;exact⟨V5 (by rw[HE.out]),rfl⟩
end Go.Proofs.YtjonkbdldebkiaaGreatDoor
