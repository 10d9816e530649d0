/- Contracts of the strict reader's methods fail, begins, need and to. Condition: a text of at most 1048576 bytes. -/
import Derived.Test.YtjonkbdldebkiaaGreatDoorYWsA
import Derived.Test.YtjonkbdldebkiaaGreatDoorYWkL
import Derived.Test.YtjonkbdldebkiaaGreatDoorYMkTok5
import Derived.Test.YtjonkbdldebkiaaGreatDoorYMkHtml
import Derived.Test.YtjonkbdldebkiaaGreatDoorYUrlD
import Derived.Deep.RegionHeld3
import Derived.Deep.QuietTactic
set_option linter.unusedVariables false
set_option linter.unusedSimpArgs false
set_option maxHeartbeats 8000000
set_option maxRecDepth 100000
namespace Fd
theorem j4f (p:Bs) (hp:p ≠ []) (l:Bs):z0c p l=if Go.Lib.index l p = -1 then none else some (l.take (Go.Lib.index l p).toNat,l.drop ((Go.Lib.index l p).toNat + p.length)):=by
 induction l with
 | nil =>
  cases p with
  | nil=>exact absurd rfl hp
  | cons _ _=>rfl
 | cons c t ih =>
  have hpre:Mg.pre p (c :: t)=p.isPrefixOf (c :: t):=by
   unfold Mg.pre;rw[Bool.eq_iff_iff,List.isPrefixOf_iff_prefix,beq_iff_eq,List.prefix_iff_eq_take];exact eq_comm
  unfold z0c Go.Lib.index;rw[hpre]
  cases h:p.isPrefixOf (c :: t) with
  | true=>simp
  | false =>
   rw[ih];have hge:=Go.Lib.index_ge t p
   by_cases h1:Go.Lib.index t p = -1
   ·simp[h1]
   ·have h2:(Go.Lib.index t p == -1)=false:=beq_eq_false_iff_ne.2 h1
    have h3:¬ (Go.Lib.index t p + 1 = -1):=by omega
    rw[h2];simp only [Bool.false_eq_true,if_false,if_neg h1,if_neg h3,Option.map_some];rw[show (Go.Lib.index t p + 1).toNat=(Go.Lib.index t p).toNat + 1 by omega,show (Go.Lib.index t p).toNat + 1 + p.length=((Go.Lib.index t p).toNat + p.length) + 1 by omega,List.drop_succ_cons,List.take_succ_cons]
end Fd
namespace Go.Proofs.YtjonkbdldebkiaaGreatDoor
open Go.Proofs.Tryz Go.RowKit
abbrev GaveX (e:Int):Ending:=.panicked [{ v:=.iface 28 (.int .i64 e),recovered:=false }]
theorem z3x (e:Int) (w:World):Calls prog 166 #[.int .i64 e] w fun x w'=>x=GaveX e∧w'=w:=by
 go_enter func166,ntmps166;go_wp2_with fail;exact⟨rfl,rfl,rfl⟩
def Xr (w:World) (R:Nat) (s:ByteArray) (k:Nat):Prop:=Blk w R 217 #[.string s,.int .i64 k]
section
variable {w w' : World} {R : Nat} {s : ByteArray} {k : Nat}
theorem Xr.c0 (h:Xr w R s k):w.cell? ⟨R,0,none⟩=some (.string s):=Blk.cell h 0
theorem Xr.c1 (h:Xr w R s k):w.cell? ⟨R,1,none⟩=some (.int .i64 k):=Blk.cell h 1
theorem Xr.fz (h:Xr w R s k) (i:Nat):w.frozen? ⟨R,i,none⟩=false:=Blk.frozen h i
theorem Xr.drewN (h:Xr w R s k) (n:Nat):Xr (w.drewN n) R s k:=Blk.drewN h n
theorem Xr.at_ (h:Xr w R s k) (j:Nat):Xr (w.setCell ⟨R,1,none⟩ (.int .i64 j)) R s j:=Blk.set_ h 1 _
theorem z5d (p:List UInt8) (h:Xr w R s k) (hk:k≤s.size) (hs:s.size≤1048576) :
  Calls prog 216 #[.pointer (some ⟨R,0,none⟩),.string (st p)] w fun e w'=>e=.returned (.bool (Mg.pre p (s.data.toList.drop k)))∧∃ n,w'=w.drewN n:=by
 have c0:=h.c0;have c1:=h.c1;have hk1:(k:Int)≤s.size:=by omega
 have hsp:=fun W=>z2w (s.extract k s.size) p W
 rw[show (s.extract k s.size).data.toList=s.data.toList.drop k from by rw[Y1,z1o,List.take_of_length_le (by rw[List.length_drop,bs_len];omega)]] at hsp;have HSP:=Ld hsp;clear hsp;go_enter func216,ntmps216;go_wp2_with fail
 go_quiet ((go_at_call 254;exact(HSP.out _).mono fun e w'' hh=>⟨hh.1,_,hh.2.symm⟩))
 go_wp2_with fail;go_ret;exact⟨rfl,_,rfl⟩
theorem j8c (p:List UInt8) (h:Xr w R s k) (hk:k≤s.size) (hs:s.size≤1048576) :
  Calls prog 213 #[.pointer (some ⟨R,0,none⟩),.string (st p)] w fun e w'=>(Mg.pre p (s.data.toList.drop k)=true∧k + p.length≤s.size∧e=.returned (.tuple #[])∧Xr w' R s (k + p.length)∧Moved R w w')∨(Mg.pre p (s.data.toList.drop k)=false∧e=GaveX 1∧∃ n,w'=w.drewN n):=by
 have HB:=Ld (z5d p h hk hs);have HX:=Ld h;clear h;obtain⟨b,hb⟩:∃ b,Mg.pre p (s.data.toList.drop k)=b:=⟨_,rfl⟩;rw[hb] at HB ⊢;have HBB:=Ld hb;clear hb
 cases b with
 | false =>
  go_enter func213,ntmps213;go_wp2_with fail;refine HB.out.mono ?_;rintro e w1 ⟨rfl,n,hw1⟩;subst hw1;go_wp2_with fail;refine(z3x 1 _).mono ?_;rintro e w2 ⟨rfl,hw2⟩;subst w2;go_wp2_with fail;exact⟨rfl,.inr ⟨(by first | rfl | trivial),rfl,n,rfl⟩⟩
 | true =>
  have hpl:k + p.length≤s.size:=by
   have h1:=HBB.out;unfold Mg.pre at h1;have h2:(s.data.toList.drop k).take p.length=p:=by simpa using h1
   have h3:=congrArg List.length h2;rw[List.length_take,List.length_drop,bs_len] at h3;omega
  have HPZ:Hid ((st p).size=p.length):=Z4 p;have hz1:(st p).size≤1048576:=by rw[HPZ.out];omega
  go_enter func213,ntmps213;go_wp2_with fail;refine HB.out.mono ?_;rintro e w1 ⟨rfl,n,hw1⟩;subst hw1;have X1:=HX.out.drewN n;have d1:=X1.c1;have g1:=X1.fz 1;have X2:=Ld X1;clear X1;go_wp2_with fail;go_end0;refine .inl ⟨(by first | rfl | trivial),hpl,rfl,?_,((Moved.refl R w).drewN n).setCell 1 _⟩;have:=X2.out.at_ (k + p.length)
  rw[show ((k:Int) + ((st p).size:Int))=((k + p.length:Nat):Int) by rw[HPZ.out];omega];exact this
theorem xr_to (p:List UInt8) (hg:Gl w) (h:Xr w R s k) (hk:k≤s.size) (hs:s.size≤1048576) (hp:p ≠ []) (hpl:p.length≤3) :
  Calls prog 251 #[.pointer (some ⟨R,0,none⟩),.string (st p)] w fun e w'=>(Fd.z0c p (s.data.toList.drop k)=none∧e=GaveX 1∧∃ n,w'=w.drewN n)∨∃ a j,Fd.z0c p (s.data.toList.drop k)=some (a,s.data.toList.drop j)∧e=.returned (.string (st a))∧k < j∧j≤s.size∧Xr w' R s j∧Moved R w w':=by
 have c0:=h.c0;have c1:=h.c1;have f1:=h.fz 1;have HX:=Ld h;have hk1:(k:Int)≤s.size:=by omega
 have HA:=Ld (Fd.j4f p hp (s.data.toList.drop k));have hd:(s.extract k s.size).data.toList=s.data.toList.drop k:=by rw[Y1,z1o,List.take_of_length_le (by rw[List.length_drop,bs_len];omega)]
 obtain⟨mm,hmm⟩:=hg.ml;have hc:=fun n=>Tryz.strings_Index (s.extract k s.size) (st p) mm (w.drewN n) (by rw[show (s.extract k s.size).size=(s.extract k s.size).data.toList.length from (bs_len _).symm,hd,List.length_drop,bs_len];omega) hmm
 rw[hd,z1o] at hc;have hge:=Lib.index_ge (s.data.toList.drop k) p;have hrm:=fun q=>Lib.index_room (s.data.toList.drop k) p q
 generalize Lib.index (s.data.toList.drop k) p=ix at hc hge HA hrm;have HC:=Ld hc;have HPZ:Hid ((st p).size=p.length):=Z4 p;have h2:=List.length_pos_iff.2 hp;have HRM:=Ld hrm;clear hc hd hmm h hrm hp
 by_cases hi:ix = -1
 ·have HE:Hid (Fd.z0c p (s.data.toList.drop k)=none):=by show _=_;rw[HA.out,if_pos hi]
  subst hi;clear HA HRM;go_enter func251,ntmps251;go_wp2_with fail
  go_quiet ((go_at_call 272;exact(HC.out _).mono fun e w'' hh=>⟨hh.1,_,hh.2⟩))
  go_wp2_with fail;refine(z3x 1 _).mono ?_;rintro e w2 ⟨rfl,hw2⟩;subst w2;go_wp2_with fail;exact⟨rfl,.inl ⟨HE.out,rfl,_,rfl⟩⟩
 ·rw[if_neg hi] at HA
  obtain⟨i,rfl⟩:∃ i:Nat,ix=i:=⟨ix.toNat,by omega⟩;rw[Int.toNat_natCast,List.drop_drop] at HA;have hil:k + i + p.length≤s.size:=by
   have h1:=HRM.out (by omega);rw[List.length_drop,bs_len] at h1;omega
  clear hi hge HRM;have hi1:(k:Int) + i≤s.size:=by omega
  have hwi:IntKind.i64.wrap ((k:Int) + i)=(k:Int) + i:=by rw[IntKind.wrap_i64];omega
  have hx:s.extract k (k + i)=st ((s.data.toList.drop k).take i):=by rw[Y1,Nat.add_sub_cancel_left]
  go_enter func251,ntmps251;go_wp2_with fail
  go_quiet ((go_at_call 272;exact(HC.out _).mono fun e w'' hh=>⟨hh.1,_,hh.2⟩))
  go_wp2_with fail
  go_quiet (fail)
  go_wp2_with fail;have e1:wrap64 ((k:Int) + wrap64 ((i:Int) + (st p).size))=((k + (i + p.length):Nat):Int):=by
   rw[HPZ.out,w64 (n:=(i:Int) + p.length) (by omega) (by omega),w64 (by omega) (by omega)];omega
  rw[e1];go_ret;exact .inr ⟨_,_,HA.out,by rw[hx];rfl,by omega,by omega,(HX.out.drewN _).at_ _,((Moved.refl R w).drewN _).setCell 1 _⟩
end
section
variable {w w' : World} {R : Nat} {s : ByteArray} {k : Nat}
theorem q0d (h:Xr w R s k) (hk:k≤s.size) (hs:s.size≤1048576) :
  Calls prog 211 #[.pointer (some ⟨R,0,none⟩)] w fun e w'=>∃ j,k≤j∧j≤s.size∧e=.returned (.int .i64 ((j:Int) - k))∧s.data.toList.drop j=Fd.V8 (s.data.toList.drop k)∧Xr w' R s j∧Moved R w w':=by
 have c1:=h.c1;have HX:=Ld h;clear h;go_enter func211,ntmps211;go_wp2_with fail;clear c1
 go_loopg [] s.size (fun g wx=>∃ j:Nat,k≤j∧j≤s.size∧s.size≤j + g∧Hid (Fd.V8 (s.data.toList.drop k)=Fd.V8 (s.data.toList.drop j))∧Hid (Xr wx R s j)∧Hid (Moved R w wx))
 case atStart=>exact⟨k,Lr,hk,by omega,rfl,HX,Moved.refl R w⟩
 case round =>
  obtain⟨j,hkj,hjs,hfu,HS,X,MV⟩:=hrel;have c0:=X.out.c0;have c1:=X.out.c1;have f1:=X.out.fz 1
  by_cases hlt:j < s.size
  ·have hj1:(j:Int) < s.size:=by omega
   have hdr:=z09 s j hlt;have HW:=Ld (fun W=>q5k s[j] W);have HSK:Hid (Fd.V8 (s.data.toList.drop j)=if Fd.z2s s[j] then Fd.V8 (s.data.toList.drop (j + 1)) else s.data.toList.drop j):=by
    show _=_;rw[hdr];unfold Fd.V8;rw[List.dropWhile_cons]
   obtain⟨g',rfl⟩:∃ g',gk=g' + 1:=⟨gk - 1,by omega⟩;obtain⟨b,hb⟩:∃ b,Fd.z2s s[j]=b:=⟨_,rfl⟩;rw[hb] at HW HSK;clear hb hdr
   cases b with
   | true =>
    go_wp2_with fail
    go_quiet ((go_at_call 226;exact Calls.quiet_of_same (HW.out _)))
    go_wp2_with fail
    go_roundg g'
    case measure=>omega
    case rel=>exact⟨j + 1,by omega,by omega,by omega,by show _=_;rw[HS.out,HSK.out];simp,by show Xr _ _ _ _;have:=(X.out.drewN nq).at_ (j + 1);simpa using this,(MV.out.drewN _).setCell 1 _⟩
   | false =>
    go_wp2_with fail
    go_quiet ((go_at_call 226;exact Calls.quiet_of_same (HW.out _)))
    go_wp2_with fail;go_ret;exact⟨j,hkj,hjs,by rfl,by rw[HS.out,HSK.out];simp,X.out.drewN _,MV.out.drewN _⟩
  ·have hj1:¬ (j:Int) < s.size:=by omega
   have hke:j=s.size:=by omega
   have HE:Hid (s.data.toList.drop j=Fd.V8 (s.data.toList.drop k)):=by
    show _=_;rw[HS.out,hke,List.drop_of_length_le (by rw[bs_len];omega)];rfl
   clear hke;go_wp2_with fail
   go_quiet (fail)
   go_wp2_with fail;go_ret;exact⟨j,hkj,hjs,by rfl,HE.out,X.out.drewN _,MV.out.drewN _⟩
end
end Go.Proofs.YtjonkbdldebkiaaGreatDoor
namespace Fd
open Mk
theorem z9f (s:Bs):(V8 s).length≤s.length:=by
 unfold V8;exact(List.dropWhile_suffix _).length_le
theorem z4z {s n r:Bs} (h:z06 s=.ok n r):r.length≤s.length:=by
 unfold z06 at h
 split at h
 ·injection h with _ h2
  rw[← h2];simp
 ·cases h
theorem z1a {p s:Bs} (h:Mg.pre p s=true):p.length≤s.length:=by
 by_cases hl:s.length < p.length
 ·rw[Mg.j6n p s hl] at h;cases h
 ·omega
theorem z1d {p s r:Bs} {u:Unit} (h:z0k p s=.ok u r):r.length + p.length=s.length:=by
 unfold z0k at h
 split at h
 ·rename_i hp
  have:=z1a hp;injection h with _ h2;rw[← h2,List.length_drop];omega
 ·cases h
theorem z5e (p:Bs) (hp:p ≠ []):∀ (s:Bs) (x:Bs × Bs),z0c p s=some x→x.2.length + x.1.length + p.length=s.length
 | [],x,h=>by rw[z0c] at h;cases h
 | c :: t,x,h=>by
  rw[z0c] at h
  split at h
  ·rename_i hq
   have:=z1a hq;injection h with h;rw[← h];show ((c :: t).drop p.length).length + ([]:Bs).length + p.length=_;rw[List.length_drop];simp only [List.length_cons,List.length_nil] at this ⊢;omega
  ·cases he:z0c p t with
   | none=>rw[he] at h;cases h
   | some y =>
    rw[he] at h;injection h with h;have:=z5e p hp t y he;rw[← h];simp only [List.length_cons];omega
theorem z9u {p s v r:Bs} (hp:p ≠ []) (h:toX p s=.ok v r):r.length + v.length + p.length=s.length:=by
 unfold toX at h
 cases he:z0c p s with
 | none=>rw[he] at h;cases h
 | some x =>
  rw[he] at h;injection h with h1 h2;have:=z5e p hp s x he;rw[← h1,← h2];exact this
theorem z3n {s r:Bs} {u:Unit} (h:z1c s=some (.ok u r)):r.length < s.length:=by
 unfold z1c at h
 split at h
 ·rename_i hp
  have:=z1a hp
  cases he:z0c [45,45,62] (s.drop 4) with
  | none=>rw[he] at h;cases h
  | some x =>
   rw[he] at h;injection h with h;injection h with _ h2;have hh:=z5e [45,45,62] (by simp) _ x he;rw[List.length_drop] at hh;rw[← h2];simp only [List.length_cons,List.length_nil] at this hh ⊢;omega
 split at h
 ·rename_i hp
  have:=z1a hp
  cases he:z0c [63,62] (s.drop 2) with
  | none=>rw[he] at h;cases h
  | some x =>
   rw[he] at h;injection h with h;injection h with _ h2;have hh:=z5e [63,62] (by simp) _ x he;rw[List.length_drop] at hh;rw[← h2];simp only [List.length_cons,List.length_nil] at this hh ⊢;omega
 ·cases h
theorem j7w {s v r:Bs} (h:z3a s=.ok v r):r.length < s.length:=by
 unfold z3a at h;simp only at h;generalize (if Mg.pre [39] s=true then (39:UInt8) else 34)=q at h
 cases hn:z0k [q] s with
 | er e=>rw[hn] at h;cases h
 | ok u r1 =>
  rw[hn] at h;simp only at h;have h1:=z1d hn
  cases ht:toX [q] r1 with
  | er e=>rw[ht] at h;cases h
  | ok v1 r2 =>
   rw[ht] at h;simp only at h;have h2:=z9u (by simp) ht;simp only [List.length_cons,List.length_nil] at h1 h2
   split at h
   ·cases h
   split at h
   ·injection h with _ h4
    rw[← h4];omega
   ·cases h
theorem q41 {s r:Bs} {a:At} (h:z4k s=.ok a r):r.length < s.length:=by
 unfold z4k at h
 cases h1:z06 s with
 | er e=>rw[h1] at h;cases h
 | ok n r1 =>
  rw[h1] at h;simp only at h;have l1:=z4z h1
  cases h2:z0k [61] (V8 r1) with
  | er e=>rw[h2] at h;cases h
  | ok u r2 =>
   rw[h2] at h;simp only at h;have l2:=z1d h2;have l3:=z9f r1;simp only [List.length_cons,List.length_nil] at l2
   cases h3:z3a (V8 r2) with
   | er e=>rw[h3] at h;cases h
   | ok v z =>
    rw[h3] at h;injection h with _ h5;have l4:=j7w h3;have l5:=z9f r2;rw[← h5];omega
theorem q5q:∀ (n:Nat) (s:Bs) (out l:List At) (r:Bs),z0o n s out=.ok l r→r.length≤s.length
 | 0,s,out,l,r,h=>by rw[z0o] at h;injection h with _ h2;rw[← h2];exact Nat.le_refl _
 | n + 1,s,out,l,r,h=>by
  rw[z0o] at h
  split at h
  ·rename_i hl
   cases hs:V8 s with
   | nil=>rw[hs] at h;injection h with _ h2;rw[← h2];exact Nat.zero_le _
   | cons c t =>
    rw[hs] at h hl;simp only at h
    split at h
    ·cases ha:z4k (c :: t) with
     | er e=>rw[ha] at h;cases h
     | ok a r1 =>
      rw[ha] at h;simp only at h;have l1:=q41 ha
      split at h
      ·cases h
      ·have:=q5q n r1 _ l r h
       omega
    ·injection h with _ h2;rw[← h2];omega
  ·injection h with _ h2;rw[← h2];exact Nat.le_refl _
theorem q0l {s r:Bs} {l:List At} (h:z2f s=.ok l r):r.length≤s.length:=q5q _ _ _ _ _ h
theorem z5g:∀ (n m:Nat) (s:Bs) (out:List At),s.length < n→s.length < m→z0o n s out=z0o m s out
 | 0,m,s,out,h,_=>by omega
 | n + 1,0,s,out,_,h=>by omega
 | n + 1,m + 1,s,out,h1,h2=>by
  rw[z0o,z0o]
  by_cases hl:(V8 s).length < s.length
  ·rw[if_pos hl,if_pos hl]
   cases hs:V8 s with
   | nil=>rfl
   | cons c t =>
    rw[hs] at hl;simp only
    split
    ·cases ha:z4k (c :: t) with
     | er e=>rfl
     | ok a r1 =>
      simp only;have l1:=q41 ha
      split
      ·rfl
      ·exact z5g n m r1 _ (by omega) (by omega)
    ·rfl
  ·rw[if_neg hl,if_neg hl]
theorem z7b:∀ (n m:Nat) (s:Bs),s.length < n→s.length < m→z6b n s=z6b m s
 | 0,m,s,h,_=>by omega
 | n + 1,0,s,_,h=>by omega
 | n + 1,m + 1,s,h1,h2=>by
  rw[z6b,z6b]
  split
  ·exact z7b n m _ (by omega) (by omega)
  ·cases ha:z1c s with
   | none=>rfl
   | some x =>
    cases x with
    | er e=>rfl
    | ok u r=>have:=z3n ha;exact z7b n m r (by omega) (by omega)
mutual
theorem q4f:∀ (n:Nat) (deep:Int) (s:Bs) (x:El) (r:Bs),z3y n deep s=.ok x r→r.length < s.length
 | 0,deep,s,x,r,h=>by rw[z3y] at h;cases h
 | n + 1,deep,s,x,r,h=>by
  rw[z3y] at h
  cases h1:z0k [60] s with
  | er e=>rw[h1] at h;cases h
  | ok u1 r1 =>
  rw[h1] at h;simp only at h;have l1:=z1d h1;simp only [List.length_cons,List.length_nil] at l1
  cases h2:z06 r1 with
  | er e=>rw[h2] at h;cases h
  | ok nm r2 =>
  rw[h2] at h;simp only at h;have l2:=z4z h2
  split at h
  ·cases h
  cases h3:z2f r2 with
  | er e=>rw[h3] at h;cases h
  | ok l r3 =>
  rw[h3] at h;simp only at h;have l3:=q0l h3
  split at h
  ·injection h with _ hr;rw[← hr,List.length_drop];omega
  cases h4:z0k [62] r3 with
  | er e=>rw[h4] at h;cases h
  | ok u4 r4 =>
  rw[h4] at h;simp only at h;have l4:=z1d h4;simp only [List.length_cons,List.length_nil] at l4
  cases h5:z1l n deep r4 .nil with
  | er e=>rw[h5] at h;cases h
  | ok k r5 =>
  rw[h5] at h;simp only at h;have l5:=z8m n deep r4 .nil k r5 h5
  cases h6:z06 r5 with
  | er e=>rw[h6] at h;cases h
  | ok nm2 r6 =>
  rw[h6] at h;simp only at h;have l6:=z4z h6
  split at h
  ·cases h
  cases h7:z0k [62] (V8 r6) with
  | er e=>rw[h7] at h;cases h
  | ok u7 r7 =>
  rw[h7] at h;injection h with _ hr;have l7:=z1d h7;have l8:=z9f r6;simp only [List.length_cons,List.length_nil] at l7;rw[← hr];omega
theorem z8m:∀ (n:Nat) (deep:Int) (s:Bs) (out k:Fo) (r:Bs),z1l n deep s out=.ok k r→r.length < s.length
 | 0,deep,s,out,k,r,h=>by rw[z1l] at h;cases h
 | n + 1,deep,s,out,k,r,h=>by
  rw[z1l] at h
  split at h
  ·rename_i hp
   have:=z1a hp;injection h with _ hr;simp only [List.length_cons,List.length_nil] at this;rw[← hr,List.length_drop];omega
  split at h
  ·rename_i hp
   have:=z1a hp;simp only [List.length_cons,List.length_nil] at this
   cases h1:toX [93,93,62] (s.drop 9) with
   | er e=>rw[h1] at h;cases h
   | ok t1 r1 =>
    rw[h1] at h;simp only at h;have l1:=z9u (by simp) h1;rw[List.length_drop] at l1;have:=z8m n deep r1 _ k r h;omega
  cases ha:z1c s with
  | some x =>
   rw[ha] at h
   cases x with
   | er e=>cases h
   | ok u r1 =>
    simp only at h;have:=z3n ha;have:=z8m n deep r1 _ k r h;omega
  | none =>
   rw[ha] at h;simp only at h
   split at h
   ·cases he:z3y n (deep + 1) s with
    | er e=>rw[he] at h;cases h
    | ok x r1 =>
     rw[he] at h;simp only at h;have:=q4f n (deep + 1) s x r1 he;have:=z8m n deep r1 _ k r h;omega
   ·cases hz:z0c [60] s with
    | none=>rw[hz] at h;cases h
    | some y =>
     rw[hz] at h;simp only at h
     split at h
     ·have:=z8m n deep _ _ k r h
      rw[List.length_drop] at this;omega
     ·cases h
end
mutual
theorem q2x:∀ (n m:Nat) (deep:Int) (s:Bs),s.length≤n→s.length≤m→z3y n deep s=z3y m deep s
 | 0,0,deep,s,_,_=>rfl
 | 0,m + 1,deep,s,h,_=>by
  have:s=[]:=List.eq_nil_of_length_eq_zero (by omega);rw[this,z3y,z3y];rfl
 | n + 1,0,deep,s,_,h=>by
  have:s=[]:=List.eq_nil_of_length_eq_zero (by omega);rw[this,z3y,z3y];rfl
 | n + 1,m + 1,deep,s,g1,g2=>by
  rw[z3y,z3y]
  cases h1:z0k [60] s with
  | er e=>rfl
  | ok u1 r1 =>
  simp only;have l1:=z1d h1;simp only [List.length_cons,List.length_nil] at l1
  cases h2:z06 r1 with
  | er e=>rfl
  | ok nm r2 =>
  simp only;have l2:=z4z h2
  split
  ·rfl
  cases h3:z2f r2 with
  | er e=>rfl
  | ok l r3 =>
  simp only;have l3:=q0l h3
  split
  ·rfl
  cases h4:z0k [62] r3 with
  | er e=>rfl
  | ok u4 r4 =>
  simp only;have l4:=z1d h4;simp only [List.length_cons,List.length_nil] at l4;rw[z3j n m deep r4 .nil (by omega) (by omega)]
theorem z3j:∀ (n m:Nat) (deep:Int) (s:Bs) (out:Fo),s.length < n→s.length < m→z1l n deep s out=z1l m deep s out
 | 0,m,deep,s,out,h,_=>by omega
 | n + 1,0,deep,s,out,_,h=>by omega
 | n + 1,m + 1,deep,s,out,g1,g2=>by
  rw[z1l,z1l]
  split
  ·rfl
  split
  ·rename_i hp
   have:=z1a hp;simp only [List.length_cons,List.length_nil] at this
   cases h1:toX [93,93,62] (s.drop 9) with
   | er e=>rfl
   | ok t1 r1 =>
    simp only;have l1:=z9u (by simp) h1;rw[List.length_drop] at l1;exact z3j n m deep r1 _ (by omega) (by omega)
  cases ha:z1c s with
  | some x =>
   cases x with
   | er e=>rfl
   | ok u r1 =>
    simp only;have:=z3n ha;exact z3j n m deep r1 _ (by omega) (by omega)
  | none =>
   simp only
   split
   ·rw[q2x n m (deep + 1) s (by omega) (by omega)]
    cases he:z3y m (deep + 1) s with
    | er e=>rfl
    | ok x r1 =>
     simp only;have:=q4f m (deep + 1) s x r1 he;exact z3j n m deep r1 _ (by omega) (by omega)
   ·rename_i hp
    cases hz:z0c [60] s with
    | none=>rfl
    | some y =>
     simp only;have hy:=z5e [60] (by simp) s y hz
     split
     ·have h0:y.1 ≠ []:=by
       intro h0
       cases s with
       | nil=>rw[z0c] at hz;cases hz
       | cons c t =>
        rw[z0c,if_neg hp] at hz
        cases he:z0c [60] t with
        | none=>rw[he] at hz;cases hz
        | some z=>rw[he] at hz;injection hz with hz;rw[← hz] at h0;cases h0
      have:0 < y.1.length:=List.length_pos_iff.2 h0;simp only [List.length_cons,List.length_nil] at hy;exact z3j n m deep _ _ (by rw[List.length_drop];omega) (by rw[List.length_drop];omega)
     ·rfl
end
def z5l (deep:Int) (s:Bs):Rs El:=z3y s.length deep s
def z0q (deep:Int) (s:Bs) (out:Fo):Rs Fo:=z1l (s.length + 1) deep s out
theorem z8g {n:Nat} {deep:Int} {s:Bs} (h:s.length≤n):z3y n deep s=z5l deep s:=q2x _ _ _ _ h (Nat.le_refl _)
theorem z6l {n:Nat} {deep:Int} {s:Bs} {out:Fo} (h:s.length < n):z1l n deep s out=z0q deep s out:=z3j _ _ _ _ _ h (Nat.lt_succ_self _)
def z1y:Bs:=[60,33,91,67,68,65,84,65,91]
theorem q87 {deep:Int} {s:Bs} {out:Fo} (h:Mg.pre [60,47] s=true):z0q deep s out=.ok out (s.drop 2):=by
 unfold z0q;rw[z1l,if_pos h]
theorem q4o {deep:Int} {s:Bs} {out:Fo} {e:Int} (h:Mg.pre [60,47] s=false) (h2:Mg.pre z1y s=true) (h3:toX [93,93,62] (s.drop 9)=.er e):z0q deep s out=.er e:=by
 unfold z0q;rw[z1l,if_neg (by rw[h];simp),if_pos (show Mg.pre [60,33,91,67,68,65,84,65,91] s=true from h2),h3]
theorem j2g {deep:Int} {s t r:Bs} {out:Fo} (h:Mg.pre [60,47] s=false) (h2:Mg.pre z1y s=true) (h3:toX [93,93,62] (s.drop 9)=.ok t r):z0q deep s out=z0q deep r (z9i out t):=by
 have l1:=z9u (by simp) h3;have l2:=z1a h2;unfold z1y at l2;simp only [List.length_drop,List.length_cons,List.length_nil] at l1 l2;show z1l (s.length + 1) deep s out=_;rw[z1l,if_neg (by rw[h];simp),if_pos (show Mg.pre [60,33,91,67,68,65,84,65,91] s=true from h2),h3];exact z6l (by omega)
theorem q25 {deep:Int} {s:Bs} {out:Fo} {e:Int} (h:Mg.pre [60,47] s=false) (h2:Mg.pre z1y s=false) (h3:z1c s=some (.er e)):z0q deep s out=.er e:=by
 have h2':¬ Mg.pre [60,33,91,67,68,65,84,65,91] s=true:=by intro q;rw[show Mg.pre z1y s=true from q] at h2;cases h2
 unfold z0q;rw[z1l,if_neg (by rw[h];simp),if_neg h2',h3]
theorem q86 {deep:Int} {s r:Bs} {u:Unit} {out:Fo} (h:Mg.pre [60,47] s=false) (h2:Mg.pre z1y s=false) (h3:z1c s=some (.ok u r)):z0q deep s out=z0q deep r out:=by
 have h2':¬ Mg.pre [60,33,91,67,68,65,84,65,91] s=true:=by intro q;rw[show Mg.pre z1y s=true from q] at h2;cases h2
 have l1:=z3n h3;show z1l (s.length + 1) deep s out=_;rw[z1l,if_neg (by rw[h];simp),if_neg h2',h3];exact z6l (by omega)
theorem q4p {deep:Int} {s:Bs} {out:Fo} {e:Int} (h:Mg.pre [60,47] s=false) (h2:Mg.pre z1y s=false) (h3:z1c s=none) (h4:Mg.pre [60] s=true) (h5:z5l (deep + 1) s=.er e):z0q deep s out=.er e:=by
 have h2':¬ Mg.pre [60,33,91,67,68,65,84,65,91] s=true:=by intro q;rw[show Mg.pre z1y s=true from q] at h2;cases h2
 unfold z0q;rw[z1l,if_neg (by rw[h];simp),if_neg h2',h3];simp only;rw[if_pos h4,z8g (Nat.le_refl _),h5]
theorem j2h {deep:Int} {s r:Bs} {x:El} {out:Fo} (h:Mg.pre [60,47] s=false) (h2:Mg.pre z1y s=false) (h3:z1c s=none) (h4:Mg.pre [60] s=true) (h5:z5l (deep + 1) s=.ok x r):z0q deep s out=z0q deep r (out.app (.node x.name x.ats [] x.kids .nil)):=by
 have h2':¬ Mg.pre [60,33,91,67,68,65,84,65,91] s=true:=by intro q;rw[show Mg.pre z1y s=true from q] at h2;cases h2
 have l1:=q4f _ _ _ _ _ h5;show z1l (s.length + 1) deep s out=_;rw[z1l,if_neg (by rw[h];simp),if_neg h2',h3];simp only;rw[if_pos h4,z8g (Nat.le_refl _),h5];exact z6l (by omega)
theorem q4r {deep:Int} {s:Bs} {out:Fo} (h:Mg.pre [60,47] s=false) (h2:Mg.pre z1y s=false) (h3:z1c s=none) (h4:Mg.pre [60] s=false) (h5:z0c [60] s=none):z0q deep s out=.er 1:=by
 have h2':¬ Mg.pre [60,33,91,67,68,65,84,65,91] s=true:=by intro q;rw[show Mg.pre z1y s=true from q] at h2;cases h2
 unfold z0q;rw[z1l,if_neg (by rw[h];simp),if_neg h2',h3];simp only;rw[if_neg (by rw[h4];simp),h5]
theorem q4q {deep:Int} {s:Bs} {out:Fo} {y:Bs × Bs} (h:Mg.pre [60,47] s=false) (h2:Mg.pre z1y s=false) (h3:z1c s=none) (h4:Mg.pre [60] s=false) (h5:z0c [60] s=some y) (h6:(Mk.take y.1).2=false):z0q deep s out=.er 1:=by
 have h2':¬ Mg.pre [60,33,91,67,68,65,84,65,91] s=true:=by intro q;rw[show Mg.pre z1y s=true from q] at h2;cases h2
 unfold z0q;rw[z1l,if_neg (by rw[h];simp),if_neg h2',h3];simp only;rw[if_neg (by rw[h4];simp),h5];simp only;rw[if_neg (by rw[h6];simp)]
theorem q3y {s:Bs} {y:Bs × Bs} (hp:Mg.pre [60] s=false) (hz:z0c [60] s=some y):y.1 ≠ []:=by
 intro h0
 cases s with
 | nil=>rw[z0c] at hz;cases hz
 | cons c t =>
  rw[z0c,if_neg (by rw[hp];simp)] at hz
  cases he:z0c [60] t with
  | none=>rw[he] at hz;cases hz
  | some z=>rw[he] at hz;injection hz with hz;rw[← hz] at h0;cases h0
theorem j2i {deep:Int} {s:Bs} {out:Fo} {y:Bs × Bs} (h:Mg.pre [60,47] s=false) (h2:Mg.pre z1y s=false) (h3:z1c s=none) (h4:Mg.pre [60] s=false) (h5:z0c [60] s=some y) (h6:(Mk.take y.1).2=true):z0q deep s out=z0q deep (s.drop y.1.length) (z9i out (Mk.take y.1).1):=by
 have h2':¬ Mg.pre [60,33,91,67,68,65,84,65,91] s=true:=by intro q;rw[show Mg.pre z1y s=true from q] at h2;cases h2
 have h0:=List.length_pos_iff.2 (q3y h4 h5);have hy:=z5e [60] (by simp) s y h5;simp only [List.length_cons,List.length_nil] at hy;show z1l (s.length + 1) deep s out=_;rw[z1l,if_neg (by rw[h];simp),if_neg h2',h3];simp only;rw[if_neg (by rw[h4];simp),h5];simp only;rw[if_pos h6];exact z6l (by rw[List.length_drop];omega)
theorem q08 (deep:Int) (s:Bs):z5l deep s =
  match z0k [60] s with
  | .er e=>.er e
  | .ok _ r =>
   match z06 r with
   | .er e=>.er e
   | .ok nm u =>
    if 8 < deep then .er 2
    else match z2f u with
     | .er e=>.er e
     | .ok l z =>
      if Mg.pre [47,62] z then .ok ⟨nm,l,.nil⟩ (z.drop 2)
      else match z0k [62] z with
       | .er e=>.er e
       | .ok _ y =>
        match z0q deep y .nil with
        | .er e=>.er e
        | .ok k x =>
         match z06 x with
         | .er e=>.er e
         | .ok nm2 v=>if nm2 ≠ nm then .er 4 else
          match z0k [62] (V8 v) with
          | .er e=>.er e
          | .ok _ o=>.ok ⟨nm,l,k⟩ o:=by
 rw[← z8g (Nat.le_succ s.length),z3y]
 cases h1:z0k [60] s with
 | er e=>rfl
 | ok u1 r1 =>
 simp only;have l1:=z1d h1;simp only [List.length_cons,List.length_nil] at l1
 cases h2:z06 r1 with
 | er e=>rfl
 | ok nm r2 =>
 simp only;have l2:=z4z h2
 split
 ·rfl
 cases h3:z2f r2 with
 | er e=>rfl
 | ok l r3 =>
 simp only;have l3:=q0l h3
 split
 ·rfl
 cases h4:z0k [62] r3 with
 | er e=>rfl
 | ok u4 r4 =>
 simp only;have l4:=z1d h4;simp only [List.length_cons,List.length_nil] at l4;rw[z6l (show r4.length < s.length by omega)];rfl
theorem j7z (s:Bs):xmlR s =
  match z3u s with
  | .er e=>(⟨[],[],.nil⟩,e)
  | .ok _ r =>
   match z5l 1 r with
   | .er e=>(⟨[],[],.nil⟩,e)
   | .ok x u =>
    match z3u u with
    | .er e=>(⟨[],[],.nil⟩,e)
    | .ok _ v=>if v=[] then (x,0) else (⟨[],[],.nil⟩,1):=by
 unfold xmlR
 cases h1:z3u s with
 | er e=>rfl
 | ok u r=>simp only;rw[z8g (Nat.le_succ r.length)];rfl
theorem q8c {s:Bs} (h:(V8 s).length < s.length):z3u s=z3u (V8 s):=by
 show z6b (s.length + 1) s=_;rw[z6b,if_pos h];exact z7b _ _ _ (by omega) (by omega)
theorem j6f {s:Bs} (h:¬ (V8 s).length < s.length) (h2:z1c s=none):z3u s=.ok () s:=by
 show z6b (s.length + 1) s=_;rw[z6b,if_neg h,h2]
theorem miscX_er {s:Bs} {e:Int} (h:¬ (V8 s).length < s.length) (h2:z1c s=some (.er e)):z3u s=.er e:=by
 show z6b (s.length + 1) s=_;rw[z6b,if_neg h,h2]
theorem q8b {s r:Bs} {u:Unit} (h:¬ (V8 s).length < s.length) (h2:z1c s=some (.ok u r)):z3u s=z3u r:=by
 have l1:=z3n h2;show z6b (s.length + 1) s=_;rw[z6b,if_neg h,h2];exact z7b _ _ _ (by omega) (by omega)
def z4b (s:Bs) (out:List At):Rs (List At):=z0o (s.length + 1) s out
theorem j4i {s:Bs} {out:List At} (h:¬ (V8 s).length < s.length):z4b s out=.ok out s:=by
 unfold z4b;rw[z0o,if_neg h]
theorem j0z {s:Bs} {out:List At} (h:(V8 s).length < s.length) (h2:V8 s=[]):z4b s out=.ok out []:=by
 unfold z4b;rw[z0o,if_pos h,h2]
theorem j0y {s t:Bs} {c:UInt8} {out:List At} (h:(V8 s).length < s.length) (h2:V8 s=c :: t) (h3:z2d true c=false):z4b s out=.ok out (c :: t):=by
 unfold z4b;rw[z0o,if_pos h,h2];simp only;rw[if_neg (by rw[h3];simp)]
theorem j4h {s t:Bs} {c:UInt8} {e:Int} {out:List At} (h:(V8 s).length < s.length) (h2:V8 s=c :: t) (h3:z2d true c=true) (h4:z4k (c :: t)=.er e):z4b s out=.er e:=by
 unfold z4b;rw[z0o,if_pos h,h2];simp only;rw[if_pos h3,h4]
theorem j0x {s t r:Bs} {c:UInt8} {a:At} {out:List At} (h:(V8 s).length < s.length) (h2:V8 s=c :: t) (h3:z2d true c=true) (h4:z4k (c :: t)=.ok a r) (h5:z14 z0b [] (out++[a]) ≠ 0):z4b s out=.er 6:=by
 unfold z4b;rw[z0o,if_pos h,h2];simp only;rw[if_pos h3,h4];simp only;rw[if_pos h5]
theorem q7u {s t r:Bs} {c:UInt8} {a:At} {out:List At} (h:(V8 s).length < s.length) (h2:V8 s=c :: t) (h3:z2d true c=true) (h4:z4k (c :: t)=.ok a r) (h5:z14 z0b [] (out++[a])=0):z4b s out=z4b r (out++[a]):=by
 have l1:=q41 h4;rw[h2] at h;show z0o (s.length + 1) s out=_;rw[z0o,if_pos (by rw[h2];exact h),h2];simp only;rw[if_pos h3,h4];simp only;rw[if_neg (by rw[h5];simp)];exact z5g _ _ _ _ (by omega) (by omega)
end Fd
namespace Fd
theorem aside_is (s:Bs):z1c s=if Mg.pre [60,33,45,45] s then some (match z0c [45,45,62] (s.drop 4) with | none=>.er 1 | some x=>.ok () x.2) else if Mg.pre [60,63] s then some (match z0c [63,62] (s.drop 2) with | none=>.er 1 | some x=>.ok () x.2) else none:=rfl
end Fd
namespace Go.Proofs.YtjonkbdldebkiaaGreatDoor
open Go.Proofs.Tryz Go.RowKit
section
variable {w w' : World} {R : Nat} {s : ByteArray} {k : Nat}
theorem Moved.blk {N:Nat} {T:TypeId} {cs:Array Value} {a b:World} (h:Moved R a b) (hb:Blk a N T cs) (hN:N ≠ R):Blk b N T cs:=(h.block N hN).trans hb
theorem j0k (hg:Gl w) (hR:4 < R) (h:Xr w R s k) (hk:k≤s.size) (hs:s.size≤1048576) :
  Calls prog 212 #[.pointer (some ⟨R,0,none⟩)] w fun e w' =>
   (Fd.z1c (s.data.toList.drop k)=none∧e=.returned (.bool false)∧Xr w' R s k∧Moved R w w')∨(Fd.z1c (s.data.toList.drop k)=some (.er 1)∧e=GaveX 1∧Moved R w w') ∨
   ∃ j,Fd.z1c (s.data.toList.drop k)=some (.ok () (s.data.toList.drop j))∧e=.returned (.bool true)∧k < j∧j≤s.size∧Xr w' R s j∧Moved R w w':=by
 have HA:=Ld (Fd.aside_is (s.data.toList.drop k));rw[List.drop_drop,List.drop_drop] at HA;have HB1:=Ld (z5d [60,33,45,45] h hk hs);have HX:=Ld h;have HG:=Ld hg;clear hg h;generalize Fd.z1c (s.data.toList.drop k)=out at HA ⊢;obtain⟨b1,hb1⟩:∃ b,Mg.pre [60,33,45,45] (s.data.toList.drop k)=b:=⟨_,rfl⟩;rw[hb1] at HB1 HA;have HP1:=Ld hb1;clear hb1;have HROOM:Hid (∀ p:List UInt8,Mg.pre p (s.data.toList.drop k)=true→k + p.length≤s.size):=by
  intro p hp;have h3:=Fd.z1a hp;rw[List.length_drop,bs_len] at h3
  by_cases q:p.length=0
  ·omega
  ·omega
 cases b1 with
 | true =>
  rw[if_pos rfl] at HA;have h4:k + 4≤s.size:=HROOM.out _ HP1.out;go_enter func212,ntmps212;go_wp2_with fail;refine HB1.out.mono ?_;rintro e w1 ⟨rfl,n,hw1⟩;subst hw1;have X1:=HX.out.drewN n;have d1:=X1.c1;have g1:=X1.fz 1;have X2:Hid (Xr ((w.drewN n).setCell ⟨R,1,none⟩ (.int .i64 ((k:Int) + 4))) R s (k + 4)):=by show Xr _ _ _ _;have:=X1.at_ (k + 4);simpa using this
  have MV2:=Ld (((Moved.refl R w).drewN n).setCell 1 (.int .i64 ((k:Int) + 4)));have GL2:=Ld (HG.out.below (MV2.out.below (Lr)) hR);clear X1;go_upto_region 4 with fail;generalize ((w.drewN n).setCell ⟨R,1,none⟩ (.int .i64 ((k:Int) + 4)))=w2 at X2 MV2 GL2 ⊢;have HT:=Ld (xr_to [45,45,62] GL2.out X2.out h4 hs (by decide) (by decide));go_wp2_with fail;refine HT.out.mono ?_;rintro e w3 (⟨ha,rfl,n3,hw3⟩ | ⟨a,j,ha,rfl,hkj,hjs,hx,hm⟩)
  ·subst hw3
   rw[ha] at HA;clear ha;go_wp2_with fail;exact⟨rfl,.inr (.inl ⟨HA.out,rfl,MV2.out.drewN _⟩)⟩
  ·rw[ha] at HA
   have R1:=Ld hx;have R2:=Ld (MV2.out.trans hm);clear ha hx hm;go_wp2_with fail;go_ret;exact .inr (.inr ⟨j,HA.out,by rfl,by omega,hjs,R1.out,R2.out⟩)
 | false =>
  rw[if_neg (by decide)] at HA;go_enter func212,ntmps212;go_wp2_with fail;refine HB1.out.mono ?_;rintro e w1 ⟨rfl,n,hw1⟩;subst hw1;have X1:=Ld (HX.out.drewN n);have HB2:=Ld (z5d [60,63] X1.out hk hs);obtain⟨b2,hb2⟩:∃ b,Mg.pre [60,63] (s.data.toList.drop k)=b:=⟨_,rfl⟩;rw[hb2] at HB2 HA;have HP2:=Ld hb2;clear hb2 HB1;go_wp2_with fail;refine HB2.out.mono ?_;rintro e w1 ⟨rfl,n2,hw1⟩;subst hw1
  cases b2 with
  | true =>
   rw[if_pos rfl] at HA;have h4:k + 2≤s.size:=HROOM.out _ HP2.out;have X1:=HX.out.drewN (n + n2);have d1:=X1.c1;have g1:=X1.fz 1;have X2:Hid (Xr ((w.drewN (n + n2)).setCell ⟨R,1,none⟩ (.int .i64 ((k:Int) + 2))) R s (k + 2)):=by show Xr _ _ _ _;have:=X1.at_ (k + 2);simpa using this
   have MV2:=Ld (((Moved.refl R w).drewN (n + n2)).setCell 1 (.int .i64 ((k:Int) + 2)));have GL2:=Ld (HG.out.below (MV2.out.below (Lr)) hR);clear X1;go_upto_region 7 with fail;generalize ((w.drewN (n + n2)).setCell ⟨R,1,none⟩ (.int .i64 ((k:Int) + 2)))=w2 at X2 MV2 GL2 ⊢;have HT:=Ld (xr_to [63,62] GL2.out X2.out h4 hs (by decide) (by decide));go_wp2_with fail;refine HT.out.mono ?_;rintro e w3 (⟨ha,rfl,n3,hw3⟩ | ⟨a,j,ha,rfl,hkj,hjs,hx,hm⟩)
   ·subst hw3
    rw[ha] at HA;clear ha;go_wp2_with fail;exact⟨rfl,.inr (.inl ⟨HA.out,rfl,MV2.out.drewN _⟩)⟩
   ·rw[ha] at HA
    have R1:=Ld hx;have R2:=Ld (MV2.out.trans hm);clear ha hx hm;go_wp2_with fail;go_ret;exact .inr (.inr ⟨j,HA.out,by rfl,by omega,hjs,R1.out,R2.out⟩)
  | false =>
   rw[if_neg (by decide)] at HA;go_wp2_with fail;go_ret;exact .inl ⟨HA.out,by rfl,HX.out.drewN _,(Moved.refl R w).drewN _⟩
theorem j8b (hg:Gl w) (hR:4 < R) (h:Xr w R s k) (hk:k≤s.size) (hs:s.size≤1048576) :
  Calls prog 164 #[.pointer (some ⟨R,0,none⟩)] w fun e w' =>
   (Fd.z3u (s.data.toList.drop k)=.er 1∧e=GaveX 1∧Moved R w w')∨∃ j,Fd.z3u (s.data.toList.drop k)=.ok () (s.data.toList.drop j)∧e=.returned (.tuple #[])∧k≤j∧j≤s.size∧Xr w' R s j∧Moved R w w':=by
 have HX:=Ld h;have HG:=Ld hg;clear hg h;go_enter func164,ntmps164;go_wp2_with fail
 go_loopg [] s.size (fun g wx=>∃ j:Nat,k≤j∧j≤s.size∧s.size≤j + g∧Hid (Fd.z3u (s.data.toList.drop k)=Fd.z3u (s.data.toList.drop j))∧Hid (Xr wx R s j)∧Hid (Moved R w wx))
 case atStart=>exact⟨k,Lr,hk,by omega,rfl,HX,Moved.refl R w⟩
 case round =>
  obtain⟨j,hkj,hjs,hfu,HM,X,MV⟩:=hrel;have HW:=Ld (q0d X.out hjs hs);go_wp2_with fail;refine HW.out.mono ?_;rintro e w1 ⟨j1,hj1,hjs1,rfl,hsk,hx1,hm1⟩;have X1:=Ld hx1;have MV1:=Ld (MV.out.trans hm1);have HSK:=Ld hsk;clear hx1 hm1 hsk HW;have hlen1:(Fd.V8 (s.data.toList.drop j)).length=s.size - j1:=by rw[← HSK.out,List.length_drop,bs_len]
  have hlen0:(s.data.toList.drop j).length=s.size - j:=by rw[List.length_drop,bs_len]
  have HL1:=Ld hlen1;have HL0:=Ld hlen0;clear hlen1 hlen0
  by_cases hlt:j < j1
  ·have hp:(0:Int) < (j1:Int) - j:=by omega
   have HN:Hid (Fd.z3u (s.data.toList.drop k)=Fd.z3u (s.data.toList.drop j1)):=by
    show _=_;rw[HM.out,Fd.q8c (by rw[HL1.out,HL0.out];omega),← HSK.out]
   obtain⟨g',rfl⟩:∃ g',gk=g' + 1:=⟨gk - 1,by omega⟩;go_wp2_with fail
   go_roundg g'
   case measure=>omega
   case rel=>exact⟨j1,by omega,hjs1,by omega,HN,X1,MV1⟩
  ·have hje:j1=j:=by omega
   subst hje;have hp:¬ (0:Int) < (j1:Int) - j1:=by omega
   have hno:¬ (Fd.V8 (s.data.toList.drop j1)).length < (s.data.toList.drop j1).length:=by rw[HL1.out,HL0.out];omega
   have HNO:=Ld hno;clear hno;have GL1:=Ld (HG.out.below (MV1.out.below (Lr)) hR);have HAS:=Ld (j0k GL1.out hR X1.out hjs hs);go_wp2_with fail;refine HAS.out.mono ?_;rintro e w2 (⟨ha,rfl,hx,hm⟩ | ⟨ha,rfl,hm⟩ | ⟨j2,ha,rfl,hj2,hjs2,hx,hm⟩)
   ·have HE:Hid (Fd.z3u (s.data.toList.drop k)=.ok () (s.data.toList.drop j1)):=by show _=_;rw[HM.out,Fd.j6f HNO.out ha]
    have R1:=Ld hx;have R2:=Ld (MV1.out.trans hm);clear ha hx hm;go_wp2_with fail;go_end0;exact .inr ⟨j1,HE.out,by rfl,hkj,hjs,R1.out,R2.out⟩
   ·have HE:Hid (Fd.z3u (s.data.toList.drop k)=.er 1):=by show _=_;rw[HM.out,Fd.miscX_er HNO.out ha]
    have R2:=Ld (MV1.out.trans hm);clear ha hm;go_wp2_with fail;exact⟨rfl,.inl ⟨HE.out,rfl,R2.out⟩⟩
   ·have HN:Hid (Fd.z3u (s.data.toList.drop k)=Fd.z3u (s.data.toList.drop j2)):=by show _=_;rw[HM.out,Fd.q8b HNO.out ha]
    have R1:=Ld hx;have R2:=Ld (MV1.out.trans hm);clear ha hx hm;obtain⟨g',rfl⟩:∃ g',gk=g' + 1:=⟨gk - 1,by omega⟩;go_wp2_with fail
    go_roundg g'
    case measure=>omega
    case rel=>exact⟨j2,by omega,hjs2,by omega,HN,R1,R2⟩
end
end Go.Proofs.YtjonkbdldebkiaaGreatDoor
namespace Fd
theorem q3m (s:Bs) (f:Bool) (c:UInt8) (t:Bs) (h:s=c :: t):z5v f s=if z2d f c then c :: z5v false t else []:=by rw[h];rfl
end Fd
namespace Go.Proofs.YtjonkbdldebkiaaGreatDoor
open Go.Proofs.Tryz Go.RowKit
section
variable {w w' : World} {R : Nat} {s : ByteArray} {k : Nat}
theorem q5l (h:Xr w R s k) (hk:k≤s.size) (hs:s.size≤1048576) :
  Calls prog 214 #[.pointer (some ⟨R,0,none⟩)] w fun e w' =>
   (Fd.z06 (s.data.toList.drop k)=.er 1∧e=GaveX 1∧Moved R w w')∨∃ nm j,Fd.z06 (s.data.toList.drop k)=.ok nm (s.data.toList.drop j)∧e=.returned (.string (st nm))∧k≤j∧j≤s.size∧Xr w' R s j∧Moved R w w'∧Fd.z0b nm=true:=by
 have c1:=h.c1;have HX:=Ld h;have HTX:Hid (Fd.z06 (s.data.toList.drop k)=if Fd.z0b (Fd.z5v true (s.data.toList.drop k)) then .ok (Fd.z5v true (s.data.toList.drop k)) ((s.data.toList.drop k).drop (Fd.z5v true (s.data.toList.drop k)).length) else .er 1):=rfl;clear h;go_enter func214,ntmps214;go_wp2_with fail;clear c1
 go_loopg [] s.size (fun g wx=>∃ j:Nat,k≤j∧j≤s.size∧s.size≤j + g∧Hid (Fd.z5v true (s.data.toList.drop k)=(s.data.toList.drop k).take (j - k)++Fd.z5v (decide (j=k)) (s.data.toList.drop j))∧Hid (Xr wx R s j)∧Hid (Moved R w wx))
 case atStart=>exact⟨k,Lr,hk,by omega,by show _=_;rw[Nat.sub_self,List.take_zero,List.nil_append,decide_eq_true rfl],HX,Moved.refl R w⟩
 case round =>
  obtain⟨j,hkj,hjs,hfu,HS,X,MV⟩:=hrel;have c0:=X.out.c0;have c1:=X.out.c1;have f1:=X.out.fz 1;have HFIN:Hid (Fd.z5v (decide (j=k)) (s.data.toList.drop j)=[]→(Fd.z5v true (s.data.toList.drop k)=(s.data.toList.drop k).take (j - k)∧(Fd.z5v true (s.data.toList.drop k)).length=j - k)):=by
   intro q;have h1:=HS.out;rw[q,List.append_nil] at h1;refine⟨h1,?_⟩;rw[h1,List.length_take,List.length_drop,bs_len];omega
  have hx:s.extract k j=st ((s.data.toList.drop k).take (j - k)):=by rw[Y1]
  have hkj1:(k:Int)≤j:=by omega
  have hjs1:(j:Int)≤s.size:=by omega
  by_cases hgo:∃ q:j < s.size,Fd.z2d (decide (j=k)) s[j]=true
  ·obtain⟨hlt,hb⟩:=hgo
   have hj1:(j:Int) < s.size:=by omega
   have hdr:=z09 s j hlt;have HW:=Ld (fun W=>z4j s[j] (decide (j=k)) W);have HSK:Hid (Fd.z5v (decide (j=k)) (s.data.toList.drop j)=s[j] :: Fd.z5v false (s.data.toList.drop (j + 1))):=by
    show _=_;rw[Fd.q3m _ _ _ _ hdr,hb,if_pos rfl]
   have HTA:Hid ((s.data.toList.drop k).take (j + 1 - k)=(s.data.toList.drop k).take (j - k)++[s[j]]):=by
    show _=_;have hlt2:j - k < (s.data.toList.drop k).length:=by rw[List.length_drop,bs_len];omega
    rw[show j + 1 - k=(j - k) + 1 by omega,List.take_succ_eq_append_getElem hlt2]
    congr 2
    rw[List.getElem_drop];have:k + (j - k)=j:=by omega
    simp only [this];rfl
   have hjk:((j:Int) == (k:Int))=decide (j=k):=by rw[Bool.eq_iff_iff,beq_iff_eq,decide_eq_true_iff];omega
   rw[hb] at HW;obtain⟨g',rfl⟩:∃ g',gk=g' + 1:=⟨gk - 1,by omega⟩;clear hb hdr HFIN hx;go_wp2_with fail
   go_quiet ((go_at_call 218;exact Calls.quiet_of_same (HW.out _)))
   go_wp2_with fail
   go_roundg g'
   case measure=>omega
   case rel=>exact⟨j + 1,by omega,by omega,by omega,by show _=_;rw[HS.out,HSK.out,HTA.out,decide_eq_false (by omega:¬ j + 1=k)];simp,by show Xr _ _ _ _;have:=(X.out.drewN nq).at_ (j + 1);simpa using this,(MV.out.drewN _).setCell 1 _⟩
  ·have hnil:Fd.z5v (decide (j=k)) (s.data.toList.drop j)=[]:=by
    by_cases hlt:j < s.size
    ·rw[Fd.q3m _ _ _ _ (z09 s j hlt),if_neg (fun q=>hgo ⟨hlt,q⟩)]
    ·rw[List.drop_of_length_le (by rw[bs_len];omega)];rfl
   obtain⟨hn1,hn2⟩:=HFIN.out hnil;have HTI:=Ld (fun W=>j0j ((s.data.toList.drop k).take (j - k)) W (by rw[List.length_take,List.length_drop,bs_len];omega));have HE0:Hid (Fd.z06 (s.data.toList.drop k)=if Fd.z0b ((s.data.toList.drop k).take (j - k)) then .ok ((s.data.toList.drop k).take (j - k)) (s.data.toList.drop j) else .er 1):=by
    show _=_;rw[HTX.out,hn2,hn1,List.drop_drop,show k + (j - k)=j by omega]
   clear hnil hn1 hn2 HFIN HS;obtain⟨b,hb⟩:∃ b,Fd.z0b ((s.data.toList.drop k).take (j - k))=b:=⟨_,rfl⟩;have HBT:=Ld hb;rw[hb] at HTI HE0;clear hb;clear HTX
   by_cases hlt:j < s.size
   ·have hj1:(j:Int) < s.size:=by omega
    have hjk:((j:Int) == (k:Int))=decide (j=k):=by rw[Bool.eq_iff_iff,beq_iff_eq,decide_eq_true_iff];omega
    have HW:=Ld (fun W=>z4j s[j] (decide (j=k)) W);have hf:Fd.z2d (decide (j=k)) s[j]=false:=Bool.eq_false_iff.2 (fun q=>hgo ⟨hlt,q⟩);rw[hf] at HW;clear hf hgo;go_wp2_with fail
    go_quiet ((go_at_call 218;exact Calls.quiet_of_same (HW.out _)))
    go_wp2_with fail
    go_quiet (fail)
    go_wp2_with fail;refine(HTI.out _).mono ?_;rintro e w2 ⟨rfl,hw2⟩;subst w2
    cases b with
    | true =>
     have HE:Hid (Fd.z06 (s.data.toList.drop k)=.ok ((s.data.toList.drop k).take (j - k)) (s.data.toList.drop j)):=by show _=_;rw[HE0.out];rfl
     go_wp2_with fail;go_ret;exact .inr ⟨_,j,HE.out,(by first | rfl | (rw[hx];rfl)),hkj,hjs,X.out.drewN _,MV.out.drewN _,HBT.out⟩
    | false =>
     have HE:Hid (Fd.z06 (s.data.toList.drop k)=.er 1):=by show _=_;rw[HE0.out];rfl
     go_wp2_with fail;refine(z3x 1 _).mono ?_;rintro e w3 ⟨rfl,hw3⟩;subst w3;go_wp2_with fail;exact⟨rfl,.inl ⟨HE.out,rfl,MV.out.drewN _⟩⟩
   ·have hj1:¬ (j:Int) < s.size:=by omega
    clear hgo;go_wp2_with fail
    go_quiet (fail)
    go_wp2_with fail
    go_quiet (fail)
    go_wp2_with fail;refine(HTI.out _).mono ?_;rintro e w2 ⟨rfl,hw2⟩;subst w2
    cases b with
    | true =>
     have HE:Hid (Fd.z06 (s.data.toList.drop k)=.ok ((s.data.toList.drop k).take (j - k)) (s.data.toList.drop j)):=by show _=_;rw[HE0.out];rfl
     go_wp2_with fail;go_ret;exact .inr ⟨_,j,HE.out,(by first | rfl | (rw[hx];rfl)),hkj,hjs,X.out.drewN _,MV.out.drewN _,HBT.out⟩
    | false =>
     have HE:Hid (Fd.z06 (s.data.toList.drop k)=.er 1):=by show _=_;rw[HE0.out];rfl
     go_wp2_with fail;refine(z3x 1 _).mono ?_;rintro e w3 ⟨rfl,hw3⟩;subst w3;go_wp2_with fail;exact⟨rfl,.inl ⟨HE.out,rfl,MV.out.drewN _⟩⟩
end
theorem q9g (args:Array Value) (w:World):(callFunc 167 args).run prog w=.ok (.enter 167 args) w:=Z7 func167 (by kernel_rfl) rfl _ _
theorem j6g (l:List Mk.At) (v:Value) (K:Nat→Prop) (w:World) (hv:AtsV w K v l) (hK:∀ b,K b→b < w.heap.size) (hl:Mk.Fo.atB l≤1000000) :
  Calls prog 168 #[v,.func (.func 167) #[] #[]] w fun e w'=>e=.returned (.int .i64 (Mk.z14 Fd.z0b [] l))∧Below w.heap.size w w':=by
 have hll:=Mk.z5f l;obtain⟨b,o,cap,hKb,hv1,hcl⟩:=hv.at_
 have HC:=Ld hcl;have EG:=Ld q9g;clear hcl;have eg:=q9g
 rcases hv1 with hv1 | ⟨ao,hv1,hl0⟩
 ·subst hv1
  have hcap:l.length≤cap:=by
   obtain⟨ao',cap',h1,_,h3,_⟩:=hv;injection h1 with _ _ e3;rw[e3];exact h3
  go_enter func168,ntmps168;go_wp2_with fail
  go_loopw [9] (fun i wr=>∃ k:Nat,k≤l.length∧i=.int .i64 k∧Hid (Mk.z14 Fd.z0b [] l=Mk.z14 Fd.z0b (l.take k) (l.drop k))∧Hid (Below w.heap.size w wr)) (fun i _=>l.length - (intOf i).toNat)
  case atStart=>exact⟨0,Nat.zero_le _,rfl,rfl,Below.refl _ _⟩
  case round =>
   obtain⟨k,hk,rfl,HA,BL⟩:=hrel;have hsz:=BL.out.size
   by_cases hlt:k < l.length
   ·have hb:b < w.heap.size:=hK b (hKb (by intro e;subst e;simp at hlt))
    obtain⟨c0,c1⟩:=HC.out k hlt;rw[← BL.out.cell (p:=⟨b,_,none⟩) hb] at c0 c1;have hmem:=Mk.q0h (List.getElem_mem hlt);have HD:Hid (Mk.z14 Fd.z0b [] l=if !Fd.z0b l[k].n then 1 else if Mk.z4m (l.take k) l[k].n then 6 else Mk.z14 Fd.z0b (l.take (k + 1)) (l.drop (k + 1))):=by show _=_;rw[HA.out,Mk.q42 _ _ _ hlt]
    generalize l[k]=a at c0 c1 HD hmem;have hnm:=fun W=>j0j a.n W (by omega)
    have hal:=(Below.refl wr.heap.size wr).alloc (Lr) (.cells #[.string (st a.n),.string (st a.v)] 56);have PB:=Ld (Blk.new wr 56 #[.string (st a.n),.string (st a.v)]);have BL1:=Ld (BL.out.trans (hal.mono hsz))
    cases hin:Fd.z0b a.n with
    | false =>
     rw[hin] at HD hnm;have HN:=Ld hnm;clear hnm hin HC HA hal;go_wp2_with fail;refine(HN.out _).mono ?_;rintro e w2 ⟨rfl,rfl⟩;go_wp2_with fail;go_ret;exact⟨by rw[HD.out];rfl,BL1.out⟩
    | true =>
     rw[hin] at HD hnm;have HN:=Ld hnm;obtain⟨hh,hhe⟩:∃ hh,Mk.z4m (l.take k) a.n=hh:=⟨_,rfl⟩;rw[hhe] at HD;have hvw:AtsV (wr.alloc (.cells #[.string (st a.n),.string (st a.v)] 56)) K (.slice (some ⟨b,o,none⟩) k cap) (l.take k):=(AtsV.take hv k hk).below hK BL1.out;have hcf:=z2c 219 #[.pointer (some ⟨wr.heap.size,0,none⟩)] (fun x=>x.n == a.n) j5h (l.take k) (.slice (some ⟨b,o,none⟩) k cap) K _ hvw (fun b hb=>Nat.lt_of_lt_of_le (hK b hb) BL1.out.size) (by rw[List.length_take];omega) (q7n wr.heap.size a.n (l.take k) _ (Blk.lt PB.out) (Blk.cell PB.out 0));rw[show (l.take k).any (fun x=>x.n == a.n)=hh from hhe] at hcf;have HCF:=Ld hcf;have hkc:(k:Int)≤cap:=by omega
     have hk0:(0:Int)≤k:=by omega
     clear hnm hin HC HA hal hvw hcf hhe
     cases hh with
     | true =>
      go_wp2_with fail;refine(HN.out _).mono ?_;rintro e w2 ⟨rfl,rfl⟩;go_wp2_with fail;refine HCF.out.mono ?_;rintro e w3 ⟨rfl,hb3⟩;have BL3:=Ld (BL1.out.trans (hb3.mono BL1.out.size));clear hb3 HCF;go_wp2_with fail;go_ret;exact⟨by rw[HD.out];rfl,BL3.out⟩
     | false =>
      go_wp2_with fail;refine(HN.out _).mono ?_;rintro e w2 ⟨rfl,rfl⟩;go_wp2_with fail;refine HCF.out.mono ?_;rintro e w3 ⟨rfl,hb3⟩;have BL3:=Ld (BL1.out.trans (hb3.mono BL1.out.size));clear hb3 HCF;go_wp2_with fail;go_roundw
      case rel=>exact⟨k + 1,by omega,by go_num,by show _=_;rw[HD.out];rfl,BL3⟩
      case measure=>simp[intOf];omega
   ·have hke:k=l.length:=by omega
    have HE:Hid (Mk.z14 Fd.z0b [] l=0):=by show _=_;rw[HA.out,List.drop_of_length_le (by omega)];rfl
    clear HA HC;go_wp2_with fail;go_ret;exact⟨by rw[HE.out];rfl,BL.out⟩
 ·subst hl0
  subst hv1;clear HC hK;go_enter func168,ntmps168;go_wp2_with fail
  go_loopw [9] (fun i wr=>i=.int .i64 0∧wr=w) (fun _ _=>0)
  case atStart=>exact⟨rfl,rfl⟩
  case round =>
   obtain⟨rfl,rfl⟩:=hrel;go_wp2_with fail;go_ret;exact⟨rfl,Below.refl _ _⟩
theorem q96 (s:List UInt8) (w:World) (hs:s.length≤1048576) (hg:Gl w) :
  Calls prog 253 #[.string (st s)] w fun e w'=>Below w.heap.size w w'∧(((Mk.take s).2=true∧e=.returned (.string (st (Mk.take s).1)))∨((Mk.take s).2=false∧e=GaveX 1)):=by
 have HT:=Ld (q0v (st s) w (by rw[Z4];exact hs) hg);rw[z1o] at HT;generalize hp:Mk.take s=p at HT ⊢;obtain⟨t,ok⟩:=p;clear hp
 cases ok with
 | true =>
  go_enter func253,ntmps253;go_wp2_with fail;refine HT.out.mono ?_;rintro e w1 ⟨rfl,hb⟩;go_wp2_with fail;go_ret;exact⟨hb,.inl ⟨(by first | rfl | trivial),(by first | rfl | trivial)⟩⟩
 | false =>
  go_enter func253,ntmps253;go_wp2_with fail;refine HT.out.mono ?_;rintro e w1 ⟨rfl,hb⟩;go_wp2_with fail;refine(z3x 1 _).mono ?_;rintro e w2 ⟨rfl,hw2⟩;subst w2;go_wp2_with fail;exact⟨rfl,hb,.inr ⟨(by first | rfl | trivial),(by first | rfl | trivial)⟩⟩
theorem skip_at (s:ByteArray) (k:Nat) (hk:k≤s.size):∃ j,k≤j∧j≤s.size∧s.data.toList.drop j=Fd.V8 (s.data.toList.drop k):=by
 have h:=List.dropWhile_suffix Fd.z2s (l:=s.data.toList.drop k);obtain⟨p,hp⟩:=h;refine⟨k + p.length,by omega,?_,?_⟩
 ·have:=congrArg List.length hp
  rw[List.length_append,List.length_drop,bs_len] at this;omega
 ·rw[← List.drop_drop];show _=List.dropWhile Fd.z2s _;conv=>lhs;rw[← hp]
  exact List.drop_left
section
variable {w : World} {R : Nat} {s : ByteArray} {k j : Nat}
theorem drop_inj {s:ByteArray} {a b:Nat} (ha:a≤s.size) (hb:b≤s.size) (h:s.data.toList.drop a=s.data.toList.drop b):a=b:=by
 have:=congrArg List.length h;rw[List.length_drop,List.length_drop,bs_len] at this;omega
theorem j4a (h:Xr w R s k) (hk:k≤s.size) (hs:s.size≤1048576) (hj:j≤s.size) (hd:s.data.toList.drop j=Fd.V8 (s.data.toList.drop k)) :
  Calls prog 211 #[.pointer (some ⟨R,0,none⟩)] w fun e w'=>e=.returned (.int .i64 ((j:Int) - k))∧Xr w' R s j∧Moved R w w':=by
 refine(q0d h hk hs).mono ?_;rintro e w1 ⟨j',h1,h2,h3,h4,h5,h6⟩;have e:j'=j:=drop_inj h2 hj (h4.trans hd.symm);subst e;exact⟨h3,h5,h6⟩
end
end Go.Proofs.YtjonkbdldebkiaaGreatDoor
namespace Fd
open Mk
theorem q0f:∀ (f g:Fo),Fo.bulk (f.app g)=Fo.bulk f + Fo.bulk g
 | .nil,g=>by show Fo.bulk g=0 + Fo.bulk g;omega
 | .node n a t k r,g=>by
  have:=q0f r g;show 1 + n.length + t.length + Fo.atB a + Fo.bulk k + Fo.bulk (r.app g)=1 + n.length + t.length + Fo.atB a + Fo.bulk k + Fo.bulk r + Fo.bulk g;omega
theorem j7n (f:Bool) (s:Bs):(z5v f s).length≤s.length:=by
 induction s generalizing f with
 | nil=>exact Lr
 | cons c t ih =>
  unfold z5v
  split
  ·have:=ih false;simp;omega
  ·exact Nat.zero_le _
theorem q1o {s n r:Bs} (h:z06 s=.ok n r):n.length + r.length=s.length∧n.length≤20∧z0b n=true:=by
 unfold z06 at h
 split at h
 ·rename_i hi
  injection h with h1 h2;have:=j7n true s;have hh:=hi;unfold z0b at hh;rw[Bool.and_eq_true,decide_eq_true_iff] at hh;rw[← h1,← h2,List.length_drop];exact⟨by omega,hh.2,hi⟩
 ·cases h
theorem q94 {s v r:Bs} (h:z3a s=.ok v r):v.length + 5 * r.length + 5≤5 * s.length:=by
 unfold z3a at h;simp only at h;generalize (if Mg.pre [39] s=true then (39:UInt8) else 34)=q at h
 cases hn:z0k [q] s with
 | er e=>rw[hn] at h;cases h
 | ok u r1 =>
  rw[hn] at h;simp only at h;have h1:=z1d hn
  cases ht:toX [q] r1 with
  | er e=>rw[ht] at h;cases h
  | ok v1 r2 =>
   rw[ht] at h;simp only at h;have h2:=z9u (by simp) ht;simp only [List.length_cons,List.length_nil] at h1 h2
   split at h
   ·cases h
   split at h
   ·injection h with h3 h4
    have:=take_len v1;rw[← h4,← h3];omega
   ·cases h
theorem q2h {s r:Bs} {a:At} (h:z4k s=.ok a r):1 + a.n.length + a.v.length + 5 * r.length≤5 * s.length:=by
 unfold z4k at h
 cases h1:z06 s with
 | er e=>rw[h1] at h;cases h
 | ok n r1 =>
  rw[h1] at h;simp only at h;have l1:=(q1o h1).1
  cases h2:z0k [61] (V8 r1) with
  | er e=>rw[h2] at h;cases h
  | ok u r2 =>
   rw[h2] at h;simp only at h;have l2:=z1d h2;have l3:=z9f r1;simp only [List.length_cons,List.length_nil] at l2
   cases h3:z3a (V8 r2) with
   | er e=>rw[h3] at h;cases h
   | ok v z =>
    rw[h3] at h;injection h with h4 h5;have l4:=q94 h3;have l5:=z9f r2;rw[← h5,← h4];show 1 + n.length + v.length + _≤_;omega
theorem z9k:∀ (n:Nat) (s:Bs) (out l:List At) (r:Bs),z0o n s out=.ok l r→Fo.atB l + 5 * r.length≤Fo.atB out + 5 * s.length
 | 0,s,out,l,r,h=>by rw[z0o] at h;injection h with h1 h2;rw[← h2,← h1];exact Lr
 | n + 1,s,out,l,r,h=>by
  rw[z0o] at h
  split at h
  ·rename_i hl
   cases hs:V8 s with
   | nil=>rw[hs] at h;injection h with h1 h2;rw[← h2,← h1];simp
   | cons c t =>
    rw[hs] at h hl;simp only at h
    split at h
    ·cases ha:z4k (c :: t) with
     | er e=>rw[ha] at h;cases h
     | ok a r1 =>
      rw[ha] at h;simp only at h;have l1:=q2h ha
      split at h
      ·cases h
      ·have:=z9k n r1 _ l r h
       rw[q40] at this;omega
    ·injection h with h1 h2;rw[← h2,← h1];omega
  ·injection h with h1 h2;rw[← h2,← h1];exact Lr
theorem z7f (f:Fo) (t:Bs):Fo.bulk (z9i f t)≤Fo.bulk f + (1 + t.length):=by
 unfold z9i
 split
 ·omega
 ·have:=Fo.z4y f [] [] t .nil
  have h0:Fo.atB ([]:List At)=0:=rfl;have h1:Fo.bulk .nil=0:=rfl;rw[h0,h1] at this;simp only [List.length_nil] at this;omega
mutual
theorem q2w:∀ (n:Nat) (deep:Int) (s:Bs) (x:El) (r:Bs),z3y n deep s=.ok x r→1 + x.name.length + Fo.atB x.ats + Fo.bulk x.kids + 5 * r.length≤5 * s.length
 | 0,deep,s,x,r,h=>by rw[z3y] at h;cases h
 | n + 1,deep,s,x,r,h=>by
  rw[z3y] at h
  cases h1:z0k [60] s with
  | er e=>rw[h1] at h;cases h
  | ok u1 r1 =>
  rw[h1] at h;simp only at h;have l1:=z1d h1;simp only [List.length_cons,List.length_nil] at l1
  cases h2:z06 r1 with
  | er e=>rw[h2] at h;cases h
  | ok nm r2 =>
  rw[h2] at h;simp only at h;have l2:=(q1o h2).1
  split at h
  ·cases h
  cases h3:z2f r2 with
  | er e=>rw[h3] at h;cases h
  | ok l r3 =>
  rw[h3] at h;simp only at h;have l3:=z9k _ _ _ _ _ h3;have h0:Fo.atB ([]:List At)=0:=rfl;rw[h0] at l3;have hn0:Fo.bulk .nil=0:=rfl
  split at h
  ·injection h with hx hr;rw[← hr,← hx,List.length_drop];simp only [hn0];omega
  cases h4:z0k [62] r3 with
  | er e=>rw[h4] at h;cases h
  | ok u4 r4 =>
  rw[h4] at h;simp only at h;have l4:=z1d h4;simp only [List.length_cons,List.length_nil] at l4
  cases h5:z1l n deep r4 .nil with
  | er e=>rw[h5] at h;cases h
  | ok k r5 =>
  rw[h5] at h;simp only at h;have l5:=z4t n deep r4 .nil k r5 h5;rw[hn0] at l5
  cases h6:z06 r5 with
  | er e=>rw[h6] at h;cases h
  | ok nm2 r6 =>
  rw[h6] at h;simp only at h;have l6:=z4z h6
  split at h
  ·cases h
  cases h7:z0k [62] (V8 r6) with
  | er e=>rw[h7] at h;cases h
  | ok u7 r7 =>
  rw[h7] at h;injection h with hx hr;have l7:=z1d h7;have l8:=z9f r6;simp only [List.length_cons,List.length_nil] at l7;rw[← hr,← hx];show 1 + nm.length + Fo.atB l + Fo.bulk k + _≤_;omega
theorem z4t:∀ (n:Nat) (deep:Int) (s:Bs) (out k:Fo) (r:Bs),z1l n deep s out=.ok k r→Fo.bulk k + 5 * r.length≤Fo.bulk out + 5 * s.length
 | 0,deep,s,out,k,r,h=>by rw[z1l] at h;cases h
 | n + 1,deep,s,out,k,r,h=>by
  rw[z1l] at h
  split at h
  ·rename_i hp
   have:=z1a hp;injection h with hk hr;simp only [List.length_cons,List.length_nil] at this;rw[← hr,← hk,List.length_drop];omega
  split at h
  ·rename_i hp
   have:=z1a hp;simp only [List.length_cons,List.length_nil] at this
   cases h1:toX [93,93,62] (s.drop 9) with
   | er e=>rw[h1] at h;cases h
   | ok t1 r1 =>
    rw[h1] at h;simp only at h;have l1:=z9u (by simp) h1;rw[List.length_drop] at l1;have:=z4t n deep r1 _ k r h;have:=z7f out t1;omega
  cases ha:z1c s with
  | some x =>
   rw[ha] at h
   cases x with
   | er e=>cases h
   | ok u r1 =>
    simp only at h;have:=z3n ha;have:=z4t n deep r1 _ k r h;omega
  | none =>
   rw[ha] at h;simp only at h
   split at h
   ·cases he:z3y n (deep + 1) s with
    | er e=>rw[he] at h;cases h
    | ok x r1 =>
     rw[he] at h;simp only at h;have l1:=q2w n (deep + 1) s x r1 he;have l2:=z4t n deep r1 _ k r h;rw[q0f] at l2;have h0:Fo.bulk (.node x.name x.ats [] x.kids .nil)=1 + x.name.length + 0 + Fo.atB x.ats + Fo.bulk x.kids + 0:=rfl;omega
   ·rename_i hno
    cases hz:z0c [60] s with
    | none=>rw[hz] at h;cases h
    | some y =>
     rw[hz] at h;simp only at h
     split at h
     ·have l2:=z4t n deep _ _ k r h
      rw[List.length_drop] at l2;have hy:=z5e [60] (by simp) s y hz;simp only [List.length_cons,List.length_nil] at hy;have h0:=List.length_pos_iff.2 (q3y (by simpa using hno) hz);have l3:=z7f out (take y.1).1;have l4:=take_len y.1;omega
     ·cases h
end
end Fd
namespace Go.Proofs.YtjonkbdldebkiaaGreatDoor
open Go.RowKit
structure AtI (w wx:World) (R:Nat) (s:ByteArray) (j:Nat) (o:Value) (out:List Mk.At):Prop where
 rl:R < w.heap.size
 x:Xr wx R s j
 ap:Ap (fun b=>b=R) w wx
 ow:wx.ownsRow w.heap.size 56 2 o out.length (Y8 out)
structure AtJ (w wx:World) (R:Nat) (s:ByteArray) (j:Nat) (o:Value) (out:List Mk.At) (P:Nat) (nm v:List UInt8):Prop where
 i:AtI w wx R s j o out
 pl:w.heap.size≤P
 po:o.ownBlock ≠ some P
 pb:Blk wx P 56 #[.string (st nm),.string (st v)]
section
variable {w wx wy : World} {R : Nat} {s : ByteArray} {j j' : Nat} {o : Value} {out : List Mk.At} {P : Nat} {nm v : List UInt8}
theorem AtI.not (h:AtI w wx R s j o out):∀ g,w.heap.size≤g→¬ (fun b=>b=R) g:=by
 intro g hg e;have e:g=R:=e;have:=h.rl;omega
theorem AtI.moved (h:AtI w wx R s j o out) (hm:Moved R wx wy) (hx:Xr wy R s j'):AtI w wy R s j' o out:=⟨h.rl,hx,h.ap.trans hm.ap,z2g h.ow hm.ap h.not⟩
theorem AtI.below (h:AtI w wx R s j o out) (hb:Below wx.heap.size wx wy):AtI w wy R s j o out :=
 ⟨h.rl,(hb.block R (Blk.lt h.x)).trans h.x,h.ap.trans (Ap.of_below hb),z2g h.ow (Ap.of_below (S:=fun b=>b=R) hb) h.not⟩
theorem AtI.drewN (h:AtI w wx R s j o out) (n:Nat):AtI w (wx.drewN n) R s j o out:=h.moved ((Moved.refl R wx).drewN n) (h.x.drewN n)
theorem AtI.gl (h:AtI w wx R s j o out) (hg:Gl w) (hR:4 < R):Gl wx:=hg.ap h.ap (by intro e;have e:0=R:=e;omega) (by intro e;have e:4=R:=e;omega)
theorem AtI.new (h:AtI w wx R s j o out) (nm:List UInt8):AtJ w (wx.alloc (.cells #[.string (st nm),.string ⟨#[]⟩] 56)) R s j o out wx.heap.size nm [] :=
 ⟨h.below ((Below.refl _ wx).alloc (Lr) _),h.ap.size,fun e=>absurd (h.ow.lt _ e).2 (Nat.lt_irrefl _),Blk.new wx _ _⟩
theorem AtJ.ne (h:AtJ w wx R s j o out P nm v):P ≠ R:=by
 have h1:=h.i.rl;have h2:=h.pl;omega
theorem AtJ.moved (h:AtJ w wx R s j o out P nm v) (hm:Moved R wx wy) (hx:Xr wy R s j'):AtJ w wy R s j' o out P nm v:=⟨h.i.moved hm hx,h.pl,h.po,hm.blk h.pb h.ne⟩
theorem AtJ.below (h:AtJ w wx R s j o out P nm v) (hb:Below wx.heap.size wx wy):AtJ w wy R s j o out P nm v:=⟨h.i.below hb,h.pl,h.po,(hb.block P (Blk.lt h.pb)).trans h.pb⟩
theorem AtJ.drewN (h:AtJ w wx R s j o out P nm v) (n:Nat):AtJ w (wx.drewN n) R s j o out P nm v:=h.moved ((Moved.refl R wx).drewN n) (h.i.x.drewN n)
theorem AtJ.set_ (h:AtJ w wx R s j o out P nm v) (v':List UInt8):AtJ w (wx.setCell ⟨P,1,none⟩ (.string (st v'))) R s j o out P nm v' :=
 ⟨⟨h.i.rl,Blk.far h.i.x (p:=⟨P,1,none⟩) (fun e=>h.ne e.symm) _,h.i.ap.setNew (p:=⟨P,1,none⟩) h.pl _,ownsRow_setCell_other h.i.ow (a:=⟨P,1,none⟩) h.po _⟩,h.pl,h.po,Blk.set_ h.pb 1 _⟩
theorem AtJ.pushed (h:AtJ w wx R s j o out P nm v) {cs:Array Value} {T:TypeId} {v':Value} {wz:World}
  (hown:wz.ownsRow w.heap.size 56 2 v' (out.length + 1) (Y8 out++[.string (st nm),.string (st v)])) (hgr:(wx.alloc (.cells cs T)).grownBy wz o.ownBlock):AtI w wz R s j v' (out++[⟨nm,v⟩]):=by
 refine⟨h.i.rl,?_,(h.i.ap.alloc (.cells cs T)).grown hgr (fun k hk e=>absurd hk (by have:=(h.i.ow.lt k e).1;omega)),?_⟩
 ·exact(hgr.block R (by have:=Blk.lt h.i.x;simp;omega) (fun e=>h.i.not R (h.i.ow.lt R e.symm).1 rfl)).trans (Blk.alloc h.i.x _)
 ·rw[List.length_append,show Y8 (out++[(⟨nm,v⟩:Mk.At)])=Y8 out++[.string (st nm),.string (st v)] by simp[Y8]]
  exact hown
end
end Go.Proofs.YtjonkbdldebkiaaGreatDoor
namespace Go.Proofs.YtjonkbdldebkiaaGreatDoor
open Go.Proofs.Tryz Go.RowKit
section
variable {w w' : World} {R : Nat} {s : ByteArray} {k : Nat}
def q1c (j j1:Nat) (l:List UInt8):Bool:=decide (j < j1) && (match l with | []=>false | c :: _=>Fd.z2d true c)
theorem j3x {w0:World} {j:Nat} {o:Value} {out:List Mk.At} {P:Nat} {nm v:List UInt8} (p:List UInt8) (h:AtJ w0 w R s j o out P nm v) (hk:j≤s.size) (hs:s.size≤100000) :
  Calls prog 216 #[.pointer (some ⟨R,0,none⟩),.string (st p)] w fun e w'=>e=.returned (.bool (Mg.pre p (s.data.toList.drop j)))∧AtJ w0 w' R s j o out P nm v:=by
 refine(z5d p h.i.x hk (by omega)).mono ?_;rintro e w1 ⟨rfl,n,hw⟩;subst hw;exact⟨rfl,h.drewN n⟩
theorem j0l {w0:World} {j:Nat} {o:Value} {out:List Mk.At} {P:Nat} {nm v:List UInt8} (p:List UInt8) (h:AtJ w0 w R s j o out P nm v) (hk:j≤s.size) (hs:s.size≤100000) :
  Calls prog 213 #[.pointer (some ⟨R,0,none⟩),.string (st p)] w fun e w'=>(Fd.z0k p (s.data.toList.drop j)=.ok () (s.data.toList.drop (j + p.length))∧j + p.length≤s.size∧e=.returned (.tuple #[])∧AtJ w0 w' R s (j + p.length) o out P nm v)∨(Fd.z0k p (s.data.toList.drop j)=.er 1∧e=GaveX 1∧AtJ w0 w' R s j o out P nm v):=by
 refine(j8c p h.i.x hk (by omega)).mono ?_;rintro e w1 (⟨h1,h2,h3,h4,h5⟩ | ⟨h1,h2,n,h3⟩)
 ·exact .inl ⟨by rw[Fd.z0k,if_pos h1,List.drop_drop],h2,h3,h.moved h5 h4⟩
 ·subst h3
  exact .inr ⟨by rw[Fd.z0k,if_neg (by rw[h1];simp)],h2,h.drewN n⟩
theorem q7h {w0:World} {j:Nat} {o:Value} {out:List Mk.At} {P:Nat} {nm v:List UInt8} (h:AtJ w0 w R s j o out P nm v) (hk:j≤s.size) (hs:s.size≤100000) :
  Calls prog 211 #[.pointer (some ⟨R,0,none⟩)] w fun e w'=>∃ j1,j≤j1∧j1≤s.size∧s.data.toList.drop j1=Fd.V8 (s.data.toList.drop j)∧e=.returned (.int .i64 ((j1:Int) - j))∧AtJ w0 w' R s j1 o out P nm v:=by
 refine(q0d h.i.x hk (by omega)).mono ?_;rintro e w1 ⟨j1,h1,h2,h3,h4,h5,h6⟩;exact⟨j1,h1,h2,h4,h3,h.moved h6 h5⟩
theorem xr_toA {w0:World} {j:Nat} {o:Value} {out:List Mk.At} {P:Nat} {nm v:List UInt8} (p:List UInt8) (hp:p ≠ []) (hpl:p.length≤3) (hg:Gl w0) (hR:4 < R) (h:AtJ w0 w R s j o out P nm v) (hk:j≤s.size) (hs:s.size≤100000) :
  Calls prog 251 #[.pointer (some ⟨R,0,none⟩),.string (st p)] w fun e w'=>(Fd.toX p (s.data.toList.drop j)=.er 1∧e=GaveX 1∧AtJ w0 w' R s j o out P nm v)∨∃ a j1,Fd.toX p (s.data.toList.drop j)=.ok a (s.data.toList.drop j1)∧e=.returned (.string (st a))∧a.length≤s.size∧j < j1∧j1≤s.size∧AtJ w0 w' R s j1 o out P nm v:=by
 refine(xr_to p (h.i.gl hg hR) h.i.x hk (by omega) hp hpl).mono ?_;rintro e w1 (⟨h1,h2,n,h3⟩ | ⟨a,j1,h1,h2,h3,h4,h5,h6⟩)
 ·subst h3
  exact .inl ⟨by rw[Fd.toX,h1],h2,h.drewN n⟩
 ·have ht:Fd.toX p (s.data.toList.drop j)=.ok a (s.data.toList.drop j1):=by rw[Fd.toX,h1]
  have:=Fd.z9u hp ht;rw[List.length_drop,List.length_drop,bs_len] at this;exact .inr ⟨a,j1,ht,h2,by omega,h3,h4,h.moved h6 h5⟩
theorem xm_toldA {w0:World} {j:Nat} {o:Value} {out:List Mk.At} {P:Nat} {nm v:List UInt8} (x:List UInt8) (hx:x.length≤100000) (hg:Gl w0) (hR:4 < R) (h:AtJ w0 w R s j o out P nm v) :
  Calls prog 253 #[.string (st x)] w fun e w'=>AtJ w0 w' R s j o out P nm v∧(((Mk.take x).2=true∧e=.returned (.string (st (Mk.take x).1)))∨((Mk.take x).2=false∧e=GaveX 1)):=by
 refine(q96 x w (by omega) (h.i.gl hg hR)).mono ?_;rintro e w1 ⟨h1,h2⟩;exact⟨h.below h1,h2⟩
theorem j1n (x:List UInt8):Lib.contains x [60]=x.contains 60:=by
 unfold Lib.contains
 induction x with
 | nil=>rfl
 | cons c t ih =>
  unfold Lib.index;have hge:=Lib.index_ge t [60]
  by_cases hc:c=60
  ·subst hc;rfl
  ·have h1:([60]:List UInt8).isPrefixOf (c :: t)=false:=by
    rw[Bool.eq_false_iff];intro q;simp[List.isPrefixOf] at q;exact hc q.symm
   rw[h1];rw[List.contains_cons,← ih,show ((60:UInt8) == c)=false from beq_eq_false_iff_ne.2 (fun e=>hc e.symm),Bool.false_or];simp only [Bool.false_eq_true,if_false]
   by_cases h2:Lib.index t [60] = -1
   ·simp[h2]
   ·have h3:(Lib.index t [60] == -1)=false:=beq_eq_false_iff_ne.2 h2
    rw[h3];simp only [Bool.false_eq_true,if_false];rw[Bool.eq_iff_iff];simp;omega
end
end Go.Proofs.YtjonkbdldebkiaaGreatDoor
namespace Go
section
variable {P : Program} {Q : Exit→Act→World→Prop} {a : Act} {w : World} {o0 o1 : Oper} {l : List Oper}
theorem z3w {id:Nat} (hm:P.follows .mixedOrders=true) (hs:Region.noSelect (o0 :: o1 :: l).toArray=true)
  (h0:Region.ready .any (o0 :: o1 :: l).toArray (Array.replicate (o0 :: o1 :: l).toArray.size false)=[0])
  (h1:Region.ready .any (o0 :: o1 :: l).toArray ((Array.replicate (o0 :: o1 :: l).toArray.size false).setIfInBounds 0 true)=[1])
  (hB:Region.lexFrom .any (o0 :: o1 :: l).toArray l.length 2 (((Array.replicate (o0 :: o1 :: l).toArray.size false).setIfInBounds 0 true).setIfInBounds 1 true)=true)
  (g0:o0.guard=none) (g1:o1.guard=none)
  (h:o0.wp P a w.drew (fun a0 w0=>o1.wp P a0 w0 (fun a1 w1=>wpQuiet P (o0 :: o1 :: l).toArray (fun w'=>∃ n,w'=w1.drewN n) (fun a'=>∀ w',(∃ n,w'=w1.drewN n)→Q .normal a' w') l a1) Q) Q) :
  (Code.region id (o0 :: o1 :: l).toArray true).wp P Q a w:=by
 refine wp_region_any hm ?_;have hsz:(o0 :: o1 :: l).toArray.size=l.length + 1 + 1:=by simp
 have wn:∀ (o:Oper) (ts:Nat→Option Bool),o.guard=none→Region.wanted o ts=true:=by
  intro o ts hg;unfold Region.wanted;rw[hg]
 show wpAny P .any (o0 :: o1 :: l).toArray Q (o0 :: o1 :: l).toArray.size _ a w.drew;have main:∀ listed:Array Bool,listed=Array.replicate (o0 :: o1 :: l).toArray.size false→wpAny P .any (o0 :: o1 :: l).toArray Q (l.length + 1 + 1) listed a w.drew:=by
  intro listed hl;subst hl;refine⟨fun e=>by rw[h0] at e;(cases e),fun i hi=>?_⟩;rw[h0] at hi;have hi:i=0:=by simpa using hi
  subst hi;unfold wpOp;have e0:(o0 :: o1 :: l).toArray[0]? = some o0:=rfl;rw[e0];simp only;rw[if_pos (wn o0 _ g0)];refine .inl (Oper.wp_mono (fun a0 w0 hh=>?_) h);refine⟨fun e=>by rw[h1] at e;(cases e),fun i hi=>?_⟩;rw[h1] at hi;have hi:i=1:=by simpa using hi
  subst hi;unfold wpOp;have e1:(o0 :: o1 :: l).toArray[1]? = some o1:=rfl;rw[e1];simp only;rw[if_pos (wn o1 _ g1)];refine .inl (Oper.wp_mono (fun a1 w1 hh=>?_) hh);refine wpAny_of_quiet (C:=fun w'=>∃ n,w'=w1.drewN n) (Q:=fun a'=>∀ w',(∃ n,w'=w1.drewN n)→Q .normal a' w') (fun _ w' hw' h=>h w' hw') _ _ _ _ ⟨0,rfl⟩ ?_;exact wpAnyQ_lex hs l 2 _ _ (fun j=>by simp[Nat.add_comm 2 j]) hB hh
 rw[hsz];exact main _ (by rw[hsz])
end
end Go
namespace Fd
open Mk
def z5y (s:Bs):UInt8:=if Mg.pre [39] s=true then 39 else 34
theorem attrX_t {s:Bs} {e:Int} (h:z06 s=.er e):z4k s=.er e:=by rw[z4k,h]
theorem attrX_n {s nm r:Bs} {e:Int} (h:z06 s=.ok nm r) (h2:z0k [61] (V8 r)=.er e):z4k s=.er e:=by rw[z4k,h];simp only;rw[h2]
theorem attrX_v {s nm r z:Bs} {u:Unit} (h:z06 s=.ok nm r) (h2:z0k [61] (V8 r)=.ok u z):z4k s=match z3a (V8 z) with | .er e=>.er e | .ok v y=>.ok ⟨nm,v⟩ y:=by rw[z4k,h];simp only;rw[h2];rfl
theorem valueX_n {s:Bs} {e:Int} (h:z0k [z5y s] s=.er e):z3a s=.er e:=by
 unfold z5y at h;unfold z3a;simp only;rw[h]
theorem valueX_t {s r:Bs} {u:Unit} {e:Int} (h:z0k [z5y s] s=.ok u r) (h2:toX [z5y s] r=.er e):z3a s=.er e:=by
 unfold z5y at h h2;unfold z3a;simp only;rw[h];simp only;rw[h2]
theorem valueX_c {s r v z:Bs} {u:Unit} (h:z0k [z5y s] s=.ok u r) (h2:toX [z5y s] r=.ok v z):z3a s=if v.contains 60 then .er 1 else if (Mk.take v).2 then .ok (Mk.take v).1 z else .er 1:=by
 unfold z5y at h h2;unfold z3a;simp only;rw[h];simp only;rw[h2]
end Fd
namespace Go.Proofs.YtjonkbdldebkiaaGreatDoor
open Go.Proofs.Tryz Go.RowKit
section
variable {w w' : World} {R : Nat} {s : ByteArray} {k : Nat}
theorem xr_attrs (hg:Gl w) (hR:4 < R) (h:Xr w R s k) (hk:k≤s.size) (hs:s.size≤100000) :
  Calls prog 215 #[.pointer (some ⟨R,0,none⟩)] w fun e w' =>
   (∃ er,Fd.z2f (s.data.toList.drop k)=.er er∧e=GaveX er∧Ap (fun b=>b=R) w w') ∨
   ∃ l j v,Fd.z2f (s.data.toList.drop k)=.ok l (s.data.toList.drop j)∧e=.returned v∧k≤j∧j≤s.size∧Mk.Fo.atB l≤5 * j∧AtI w w' R s j v l:=by
 have HG:=Ld hg;have HX:=Ld h;clear hg h;go_enter func215,ntmps215;go_wp2_with fail
 go_loopg [3] s.size (fun g o wx=>∃ j out,k≤j∧j≤s.size∧s.size≤j + g∧Mk.Fo.atB out≤5 * j∧Hid (Fd.z2f (s.data.toList.drop k)=Fd.z4b (s.data.toList.drop j) out)∧Hid (AtI w wx R s j o out))
 case atStart=>exact⟨k,[],Lr,hk,by omega,Nat.zero_le _,rfl,⟨Blk.lt HX.out,HX.out,Ap.refl _ _,World.ownsRow_nil _ _ _ _⟩⟩
 case round =>
  obtain⟨j,out,hkj,hjs,hfu,hab,HA,I⟩:=hrel;obtain⟨j1,hjj1,hjs1,hd1⟩:=skip_at s j hjs;have HD1:=Ld hd1;have HW:=Ld (j4a (w:=wr.drew) (Blk.drew I.out.x) hjs (by omega) hjs1 hd1);clear hd1;obtain⟨b,hb⟩:∃ b,q1c j j1 (s.data.toList.drop j1)=b:=⟨_,rfl⟩;have HB:=Ld hb;clear hb;go_upto_region 2 with fail
  go_cut [33] (fun x wx=>x=.bool b∧Hid (AtI w wx R s j1 u3 out))
  case first =>
   as_aux_lemma =>
   have HC0:Hid (wr.drew.cell? ⟨R,0,none⟩=some (.string s)):=(I.out.drewN 1).x.c0
   by_cases hlt:j < j1
   ·have hp:(0:Int) < (j1:Int) - j:=by omega
    by_cases hlt1:j1 < s.size
    ·have hdr:=z09 s j1 hlt1
     have hb:Fd.z2d true s[j1]=b:=by
      have:=HB.out;unfold q1c at this;rw[hdr,decide_eq_true hlt] at this;exact this
     have HT:=Ld (fun W=>z4j s[j1] true W);rw[hb] at HT;have hj1:(j1:Int) < s.size:=by omega
     clear hb hdr;refine z3w (by kernel_rfl) (by kernel_rfl) (by kernel_rfl) (by kernel_rfl) (by kernel_rfl) rfl rfl ?_;go_wp2_with fail;refine HW.out.mono ?_;rintro e w7 ⟨rfl,X7,MV7⟩;have d0:=X7.c0;have d1:=X7.c1;have I7:=Ld ((I.out.drewN 1).moved MV7 X7);clear X7 MV7
     dsimp only
     repeat (quiet_step ((go_at_call 218;exact Calls.quiet_of_same (HT.out _))))
     with_reducible refine wpQuiet_nil ?_
     intro nq
     all_goals
      go_wp2_with fail;go_meet
      case rel=>exact⟨rfl,I7.out.drewN nq⟩
    ·have hb:false=b:=by
      have:=HB.out;unfold q1c at this;rw[List.drop_of_length_le (by rw[bs_len];omega),Bool.and_false] at this;exact this
     subst hb;have hj1:¬ (j1:Int) < s.size:=by omega
     refine z3w (by kernel_rfl) (by kernel_rfl) (by kernel_rfl) (by kernel_rfl) (by kernel_rfl) rfl rfl ?_;go_wp2_with fail;refine HW.out.mono ?_;rintro e w7 ⟨rfl,X7,MV7⟩;have d0:=X7.c0;have d1:=X7.c1;have I7:=Ld ((I.out.drewN 1).moved MV7 X7);clear X7 MV7
     dsimp only
     repeat (with_reducible refine wpQuiet_step (fun K hK=>?_);go_simp;with_reducible refine hK _ ?_;clear hK K)
     with_reducible refine wpQuiet_nil ?_
     intro nq
     all_goals
      go_wp2_with fail;go_meet
      case rel=>exact⟨rfl,I7.out.drewN nq⟩
   ·have hb:false=b:=by
     have:=HB.out;unfold q1c at this;rw[decide_eq_false hlt,Bool.false_and] at this;exact this
    subst hb;have hp:¬ (0:Int) < (j1:Int) - j:=by omega
    refine z3w (by kernel_rfl) (by kernel_rfl) (by kernel_rfl) (by kernel_rfl) (by kernel_rfl) rfl rfl ?_;go_wp2_with fail;refine HW.out.mono ?_;rintro e w7 ⟨rfl,X7,MV7⟩;have d0:=X7.c0;have d1:=X7.c1;have I7:=Ld ((I.out.drewN 1).moved MV7 X7);clear X7 MV7
    dsimp only
    repeat (with_reducible refine wpQuiet_step (fun K hK=>?_);go_simp;with_reducible refine hK _ ?_;clear hK K)
    with_reducible refine wpQuiet_nil ?_
    intro nq
    all_goals
     go_wp2_with fail;go_meet
     case rel=>exact⟨rfl,I7.out.drewN nq⟩
  case rest =>
   as_aux_lemma =>
   obtain⟨rfl,I1⟩:=hcut;clear I HW;have hlen:(Fd.V8 (s.data.toList.drop j)).length < (s.data.toList.drop j).length↔j < j1:=by
    rw[← HD1.out,List.length_drop,List.length_drop,bs_len];omega
   have HLEN:=Ld hlen;clear hlen
   cases b with
   | false =>
    have HE:Hid (Fd.z2f (s.data.toList.drop k)=.ok out (s.data.toList.drop j1)):=by
     show _=_;rw[HA.out]
     by_cases hlt:j < j1
     ·have hl:=HLEN.out.2 hlt
      by_cases hlt1:j1 < s.size
      ·have hdr:=z09 s j1 hlt1
       have hb:=HB.out;unfold q1c at hb;rw[hdr,decide_eq_true hlt,Bool.true_and] at hb;rw[hdr];exact Fd.j0y hl (by rw[← HD1.out,hdr]) hb
      ·have hn:s.data.toList.drop j1=[]:=List.drop_of_length_le (by rw[bs_len];omega)
       rw[hn];exact Fd.j0z hl (by rw[← HD1.out,hn])
     ·have hje:j=j1:=by omega
      subst hje;exact Fd.j4i (fun q=>hlt (HLEN.out.1 q))
    go_wp2_with fail;go_ret;exact .inr ⟨out,j1,_,HE.out,rfl,by omega,hjs1,by omega,I1.out⟩
   | true =>
    have hlt:j < j1:=by
     have:=HB.out;unfold q1c at this;rw[Bool.and_eq_true,decide_eq_true_iff] at this;exact this.1
    have HC:Hid (∃ c t,s.data.toList.drop j1=c :: t∧Fd.z2d true c=true):=by
     have:=HB.out;unfold q1c at this;rw[Bool.and_eq_true] at this
     cases hd:s.data.toList.drop j1 with
     | nil=>rw[hd] at this;exact absurd this.2 (by simp)
     | cons c t=>rw[hd] at this;exact⟨c,t,rfl,this.2⟩
    have HER:Hid (∀ er,Fd.z4k (s.data.toList.drop j1)=.er er→Fd.z2f (s.data.toList.drop k)=.er er):=by
     intro er he;obtain⟨c,t,h1,h2⟩:=HC.out;rw[HA.out];exact Fd.j4h (HLEN.out.2 hlt) (by rw[← HD1.out,h1]) h2 (by rw[← h1];exact he)
    have HOK:Hid (∀ (a:Mk.At) (r:List UInt8),Fd.z4k (s.data.toList.drop j1)=.ok a r→Fd.z2f (s.data.toList.drop k)=if Mk.z14 Fd.z0b [] (out++[a]) ≠ 0 then .er 6 else Fd.z4b r (out++[a])):=by
     intro a r he;obtain⟨c,t,h1,h2⟩:=HC.out;rw[HA.out]
     by_cases hc:Mk.z14 Fd.z0b [] (out++[a])=0
     ·rw[if_neg (fun q=>q hc)]
      exact Fd.q7u (HLEN.out.2 hlt) (by rw[← HD1.out,h1]) h2 (by rw[← h1];exact he) hc
     ·rw[if_pos hc]
      exact Fd.j0x (HLEN.out.2 hlt) (by rw[← HD1.out,h1]) h2 (by rw[← h1];exact he) hc
    clear HA HB HD1 HLEN HC;have HT:=Ld (q5l I1.out.x hjs1 (by omega));go_wp2_with fail;refine HT.out.mono ?_;rintro e w2 (⟨ht,rfl,hm⟩ | ⟨nm,j2,ht,rfl,hj2,hjs2,hx,hm,hit⟩)
    ·have AP:=Ld (I1.out.ap.trans hm.ap)
     have HE:=Ld (HER.out 1 (Fd.attrX_t ht));clear hm ht HT;go_wp2_with fail;exact⟨rfl,.inl ⟨1,HE.out,rfl,AP.out⟩⟩
    have HTI:=Ld ht;have HIT:=Ld hit;have I2:=Ld (I1.out.moved hm hx);have J2:=Ld (I2.out.new nm);clear hm hx hit HT I1 ht;obtain⟨P,hP⟩:∃ P,P=w2.heap.size:=⟨_,rfl⟩;rw[← hP] at J2;go_upto_region 4 with fail;rw[← hP];generalize w2.alloc (.cells #[.string (st nm),.string ⟨#[]⟩] 56)=w3 at J2 ⊢;clear hP I2;have HW3:=Ld (q7h J2.out hjs2 hs);go_wp2_with fail;refine HW3.out.mono ?_;rintro e w4 ⟨j3,hj3,hjs3,hd3,rfl,hJ4⟩;have J4:=Ld hJ4;have HD3:=Ld hd3;clear hJ4 hd3 HW3 J2;have HN4:=Ld (j0l [61] J4.out hjs3 hs);go_wp2_with fail;refine HN4.out.mono ?_;rintro e w5 (⟨hn,hjs4,rfl,hJ5⟩ | ⟨hn,rfl,hJ5⟩)
    case inr =>
     have AP:=Ld hJ5.i.ap;have HE:=Ld (HER.out 1 (Fd.attrX_n HTI.out (by rw[← HD3.out];exact hn)));clear hn hJ5 HN4;go_wp2_with fail;exact⟨rfl,.inl ⟨1,HE.out,rfl,AP.out⟩⟩
    have HAV:Hid (Fd.z4k (s.data.toList.drop j1)=match Fd.z3a (Fd.V8 (s.data.toList.drop (j3 + 1))) with | .er e=>.er e | .ok v y=>.ok ⟨nm,v⟩ y):=Fd.attrX_v HTI.out (by rw[← HD3.out];exact hn);have J5:=Ld hJ5;have J5:Hid (AtJ w w5 R s (j3 + 1) u3 out P nm []):=J5;clear hn hJ5 HN4 HTI HD3 J4;have hjs4:j3 + 1≤s.size:=hjs4;have HW5:=Ld (q7h J5.out hjs4 hs);go_wp2_with fail;refine HW5.out.mono ?_;rintro e w6 ⟨j5,hj5,hjs5,hd5,rfl,hJ6⟩;have J6:=Ld hJ6;rw[← hd5] at HAV;clear hJ6 hd5 HW5 J5;have HB6:=Ld (j3x [39] J6.out hjs5 hs);go_wp2_with fail;refine HB6.out.mono ?_;rintro e w7 ⟨rfl,hJ7⟩;have J7:=Ld hJ7;clear hJ7 HB6 J6;go_upto_if 44 with fail
    go_cut [5] (fun x wx=>x=.string (st [Fd.z5y (s.data.toList.drop j5)])∧w7=wx)
    case first =>
     as_aux_lemma =>
     obtain⟨bq,hbq⟩:∃ bq,Mg.pre [39] (s.data.toList.drop j5)=bq:=⟨_,rfl⟩;have HQ:Hid (Fd.z5y (s.data.toList.drop j5)=if bq=true then 39 else 34):=by show _=_;rw[Fd.z5y,hbq]
     rw[hbq];clear hbq
     cases bq with
     | true =>
      go_wp2_with fail;go_meet
      case rel=>exact⟨by rw[HQ.out];rfl,rfl⟩
     | false =>
      go_wp2_with fail;go_meet
      case rel=>exact⟨by rw[HQ.out];rfl,rfl⟩
    case rest =>
     as_aux_lemma =>
     obtain⟨rfl,hw⟩:=hcut;subst hw;have HVN:=Ld (fun er h=>Fd.valueX_n (s:=s.data.toList.drop j5) (e:=er) h);have HVT:=Ld (fun r er h h2=>Fd.valueX_t (s:=s.data.toList.drop j5) (u:=()) (r:=r) (e:=er) h h2);have HVC:=Ld (fun r v z h h2=>Fd.valueX_c (s:=s.data.toList.drop j5) (u:=()) (r:=r) (v:=v) (z:=z) h h2);generalize Fd.z5y (s.data.toList.drop j5)=q at HVN HVT HVC ⊢;have HN7:=Ld (j0l [q] J7.out hjs5 hs);go_wp2_with fail;refine HN7.out.mono ?_;rintro e w8 (⟨hn,hjs6,rfl,hJ8⟩ | ⟨hn,rfl,hJ8⟩)
     case inr =>
      have AP:=Ld hJ8.i.ap;have HE:=Ld (HER.out 1 (by rw[HAV.out,HVN.out 1 hn]));clear hn hJ8 HN7;go_wp2_with fail;exact⟨rfl,.inl ⟨1,HE.out,rfl,AP.out⟩⟩
     have J8:=Ld hJ8;have HN:=Ld hn;have hjs6:j5 + 1≤s.size:=hjs6;have J8:Hid (AtJ w w8 R s (j5 + 1) u3 out P nm []):=J8;have HN:Hid (Fd.z0k [q] (s.data.toList.drop j5)=.ok () (s.data.toList.drop (j5 + 1))):=HN;clear hn hJ8 HN7 J7;have HT8:=Ld (xr_toA [q] (by simp) (by simp) HG.out hR J8.out hjs6 hs);go_wp2_with fail;refine HT8.out.mono ?_;rintro e w9 (⟨ht,rfl,hJ9⟩ | ⟨a,j7,ht,rfl,hal,hj7,hjs7,hJ9⟩)
     ·have AP:=Ld hJ9.i.ap
      have HE:=Ld (HER.out 1 (by rw[HAV.out,HVT.out _ 1 HN.out ht]));clear ht hJ9 HT8;go_wp2_with fail;exact⟨rfl,.inl ⟨1,HE.out,rfl,AP.out⟩⟩
     have HV:Hid (Fd.z3a (s.data.toList.drop j5)=if a.contains 60 then .er 1 else if (Mk.take a).2 then .ok (Mk.take a).1 (s.data.toList.drop j7) else .er 1):=HVC.out _ _ _ HN.out ht;have J9:=Ld hJ9;clear ht hJ9 HT8 J8 HN HVN HVT HVC;have hcc:∀ W:World,Gl W→Calls prog 252 #[.string (st a),.string (st [60])] W fun e w'=>e=.returned (.bool (a.contains 60))∧w'=W:=by
      intro W hW;obtain⟨m,hm⟩:=hW.ml;have:=Tryz.strings_Contains (st a) (st [60]) m W (by rw[Z4];omega) hm;rw[z1o,z1o,j1n] at this;exact this
     have HCC:=Ld (hcc w9 (J9.out.i.gl HG.out hR));clear hcc;obtain⟨bc,hbc⟩:∃ bc,a.contains 60=bc:=⟨_,rfl⟩;rw[hbc] at HCC HV;clear hbc
     cases bc with
     | true =>
      have HE:=Ld (HER.out 1 (by rw[HAV.out,HV.out];rfl));go_wp2_with fail;refine HCC.out.mono ?_;rintro e w10 ⟨rfl,hw10⟩;subst w10;go_wp2_with fail;refine(z3x 1 _).mono ?_;rintro e w10 ⟨rfl,hw10⟩;subst w10;go_wp2_with fail;exact⟨rfl,.inl ⟨1,HE.out,rfl,J9.out.i.ap⟩⟩
     | false =>
      go_wp2_with fail;refine HCC.out.mono ?_;rintro e w10 ⟨rfl,hw10⟩;subst w10;have HTO:=Ld (xm_toldA a (by omega) HG.out hR J9.out);clear HCC;go_wp2_with fail;refine HTO.out.mono ?_;rintro e w10 ⟨hJ10,⟨hk2,rfl⟩ | ⟨hk2,rfl⟩⟩
      case inr =>
       have AP:=Ld hJ10.i.ap;have HE:=Ld (HER.out 1 (by rw[HAV.out,HV.out,hk2];rfl));clear hk2 hJ10 HTO;go_wp2_with fail;exact⟨rfl,.inl ⟨1,HE.out,rfl,AP.out⟩⟩
      have HAX:Hid (Fd.z4k (s.data.toList.drop j1)=.ok ⟨nm,(Mk.take a).1⟩ (s.data.toList.drop j7)):=by show _=_;rw[HAV.out,HV.out,hk2];rfl
      have J10:=Ld hJ10;have HOK2:=Ld (HOK.out _ _ HAX.out);have hbk:=Fd.q2h HAX.out;rw[List.length_drop,List.length_drop,bs_len] at hbk;generalize (Mk.take a).1=va at J10 HOK2 hbk ⊢;have hbk2:Mk.Fo.atB (out++[⟨nm,va⟩])≤5 * j7:=by
       rw[Mk.q40];have hbk':1 + nm.length + va.length + 5 * (s.size - j7)≤5 * (s.size - j1):=hbk;show Mk.Fo.atB out + (1 + nm.length + va.length)≤_;omega
      have hol:out.length + 1≤5 * j7:=by
       have:=Mk.z5f (out++[(⟨nm,va⟩:Mk.At)]);rw[List.length_append,List.length_singleton] at this;omega
      clear hk2 hJ10 HTO HAX HOK HER HAV HV J9 hbk;have J11:=Ld (J10.out.set_ va);have p1:=Blk.frozen J10.out.pb 1;have p2:w10.cell? ⟨P,1,none⟩=some (.string ⟨#[]⟩):=Blk.cell J10.out.pb 1;go_upto_region 15 with fail;generalize w10.setCell ⟨P,1,none⟩ (.string (st va))=w11 at J11 ⊢;clear p1 p2 J10;have d0:w11.cell? ⟨P,0,none⟩=some (.string (st nm)):=Blk.cell J11.out.pb 0;have d1:w11.cell? ⟨P,1,none⟩=some (.string (st va)):=Blk.cell J11.out.pb 1;have ow:=Ld ((J11.out.below ((Below.refl _ w11).alloc (Lr) (.cells #[.string (st nm),.string (st va)] 56))).i.ow);have hbase:w.heap.size≤(w11.alloc (.cells #[.string (st nm),.string (st va)] 56)).heap.size:=Nat.le_trans J11.out.i.ap.size (by simp);obtain⟨i0,hi,hz0,hz1,hz2⟩:=info_parts Tryz.infoAttr;go_wp2_with (at_builtin;refine wpList_append_own _ rfl _ _ 50 rfl w.heap.size 56 i0 (.agg #[.string ⟨#[]⟩,.string ⟨#[]⟩]) 2 32 underlying50 hi hz0 hz1 hz2 rfl (by decide) _ _ _ rfl ow.out ⟨w11.heap.size,0,none⟩ 1 1 [.string (st nm),.string (st va)] rfl rfl (z0h _ _ _) (by intro u hu;simp at hu;rcases hu with rfl | rfl <;> rfl) (by unfold maxLen;omega) (by omega) hbase ?_);intro v' w12 hown' hgrow _;have I12:=Ld (J11.out.pushed hown' hgrow);clear hown' hgrow J11 ow d0 d1 hbase;have hat:=j6g (out++[⟨nm,va⟩]) v' (fun b=>w.heap.size≤b∧b < w12.heap.size) w12 (AtsV.of_own I12.out.ow (fun g hg'=>I12.out.ow.lt g hg')) (fun b hb=>hb.2) (by omega);generalize Mk.z14 Fd.z0b [] (out++[⟨nm,va⟩])=ck at hat HOK2;have HAT:=Ld hat
      clear hat
      go_wp2_with fail;refine HAT.out.mono ?_;rintro e w13 ⟨rfl,hb13⟩;have I13:=Ld (I12.out.below hb13);clear hb13 HAT I12
      by_cases hck:ck=0
      ·subst hck
       rw[if_neg (fun q=>q rfl)] at HOK2;obtain⟨g',rfl⟩:∃ g',gk=g' + 1:=⟨gk - 1,by omega⟩;go_wp2_with fail
       go_roundg g'
       case measure=>omega
       case rel=>exact⟨j7,_,by omega,hjs7,by omega,hbk2,HOK2,I13⟩
      ·have hcb:(ck == 0)=false:=beq_eq_false_iff_ne.2 hck
       rw[if_pos hck] at HOK2;clear hck;go_wp2_with fail;refine(z3x 6 _).mono ?_;rintro e w14 ⟨rfl,hw14⟩;subst w14;go_wp2_with fail;exact⟨rfl,.inl ⟨6,HOK2.out,rfl,I13.out.ap⟩⟩
end
end Go.Proofs.YtjonkbdldebkiaaGreatDoor
