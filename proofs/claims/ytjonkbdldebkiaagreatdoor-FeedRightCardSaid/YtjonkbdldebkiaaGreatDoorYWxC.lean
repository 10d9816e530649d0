/- Contracts of the strict reader's methods white, aside and misc. Condition: a text of at most 1048576 bytes. -/
import Derived.Test.YtjonkbdldebkiaaGreatDoorYWsG
import Derived.Test.YtjonkbdldebkiaaGreatDoorYMkStay3
import Derived.Test.YtjonkbdldebkiaaGreatDoorYMkTree2
import Derived.Test.YtjonkbdldebkiaaGreatDoorYMkHtml
import Derived.Test.YtjonkbdldebkiaaGreatDoorYWdB
set_option linter.unusedVariables false
set_option linter.unusedSimpArgs false
set_option maxHeartbeats 4000000
set_option maxRecDepth 100000
namespace Go.Proofs.YtjonkbdldebkiaaGreatDoor
open Go.RowKit
section
variable {w w' : World} {R : Nat} {s : ByteArray} {k : Nat}
theorem q1o (h:Xr w R s k) (hk:k≤s.size) (hs:s.size≤1048576) :
  Calls Tryz.prog 211 #[.pointer (some ⟨R,0,none⟩)] w fun e w'=>∃ j,k≤j∧j≤s.size∧e=.returned (.int .i64 ((j:Int) - k))∧s.data.toList.drop j=Fd.X4 (s.data.toList.drop k)∧Xr w' R s j∧Moved R w w':=by
 have c1:=h.c1;have HX:=Lib.hid h;clear h;go_enter Tryz.func211,Tryz.ntmps211;go_wp2_with fail;clear c1
 go_loopg [] s.size (fun g wx=>∃ j:Nat,k≤j∧j≤s.size∧s.size≤j + g∧Hid (Fd.X4 (s.data.toList.drop k)=Fd.X4 (s.data.toList.drop j))∧Hid (Xr wx R s j)∧Hid (Moved R w wx))
 case atStart=>exact⟨k,Nat.le_refl _,hk,by omega,rfl,HX,Moved.refl R w⟩
 case round =>
  obtain⟨j,hkj,hjs,hfu,HS,X,MV⟩:=hrel;have c0:=X.out.c0;have c1:=X.out.c1;have f1:=X.out.fz 1
  by_cases hlt:j < s.size
  ·have hj1:(j:Int) < s.size:=by omega
   have hdr:=z02 s j hlt;have HW:=Lib.hid (fun W=>q6x s[j] W);have HSK:Hid (Fd.X4 (s.data.toList.drop j)=if Fd.z2v s[j] then Fd.X4 (s.data.toList.drop (j + 1)) else s.data.toList.drop j):=by
    show _=_;rw[hdr];unfold Fd.X4;rw[List.dropWhile_cons]
   obtain⟨g',rfl⟩:∃ g',gk=g' + 1:=⟨gk - 1,by omega⟩;obtain⟨b,hb⟩:∃ b,Fd.z2v s[j]=b:=⟨_,rfl⟩;rw[hb] at HW HSK;clear hb hdr
   cases b with
   | true =>
    go_wp2_with fail
    go_quiet ((go_at_call 226;exact Calls.quiet_of_same (HW.out _)))
    go_wp2_with fail
    go_roundg g'
    case measure=>omega
    case rel=>exact⟨j + 1,by omega,by omega,by omega,by show _=_;rw[HS.out,HSK.out];simp,by show Xr _ _ _ _;have:=(X.out.drewN nq).at_ (j + 1);simpa using this,(MV.out.drewN _).setCell 1 _⟩
   | false =>
    go_wp2_with fail
    go_quiet ((go_at_call 226;exact Calls.quiet_of_same (HW.out _)))
    go_wp2_with fail;go_ret;exact⟨j,hkj,hjs,by rfl,by rw[HS.out,HSK.out];simp,X.out.drewN _,MV.out.drewN _⟩
  ·have hj1:¬ (j:Int) < s.size:=by omega
   have hke:j=s.size:=by omega
   have HE:Hid (s.data.toList.drop j=Fd.X4 (s.data.toList.drop k)):=by
    show _=_;rw[HS.out,hke,List.drop_of_length_le (by rw[bs_len];omega)];rfl
   clear hke;go_wp2_with fail
   go_quiet (fail)
   go_wp2_with fail;go_ret;exact⟨j,hkj,hjs,by rfl,HE.out,X.out.drewN _,MV.out.drewN _⟩
end
end Go.Proofs.YtjonkbdldebkiaaGreatDoor
namespace Fd
end Fd
namespace Fd
open Mk
theorem z8u (l:List At):l.length≤(written l).length:=by
 induction l with
 | nil=>exact Nat.zero_le _
 | cons a l ih=>rw[z2x];simp;omega
theorem q0b (s:Bs):(X4 s).length≤s.length:=by
 unfold X4;exact(List.dropWhile_suffix _).length_le
theorem z5i {s n r:Bs} (h:V8 s=.ok n r):r.length≤s.length:=by
 unfold V8 at h
 split at h
 ·injection h with _ h2
  rw[← h2];simp
 ·cases h
theorem z15 {p s:Bs} (h:Mg.pre p s=true):p.length≤s.length:=by
 by_cases hl:s.length < p.length
 ·rw[Mg.j9u p s hl] at h;cases h
 ·omega
theorem z18 {p s r:Bs} {u:Unit} (h:z0b p s=.ok u r):r.length + p.length=s.length:=by
 unfold z0b at h
 split at h
 ·rename_i hp
  have:=z15 hp;injection h with _ h2;rw[← h2,List.length_drop];omega
 ·cases h
theorem z5n (p:Bs) (hp:p ≠ []):∀ (s:Bs) (x:Bs × Bs),z05 p s=some x→x.2.length + x.1.length + p.length=s.length
 | [],x,h=>by rw[z05] at h;cases h
 | c :: t,x,h=>by
  rw[z05] at h
  split at h
  ·rename_i hq
   have:=z15 hq;injection h with h;rw[← h];show ((c :: t).drop p.length).length + ([]:Bs).length + p.length=_;rw[List.length_drop];simp only [List.length_cons,List.length_nil] at this ⊢;omega
  ·cases he:z05 p t with
   | none=>rw[he] at h;cases h
   | some y =>
    rw[he] at h;injection h with h;have:=z5n p hp t y he;rw[← h];simp only [List.length_cons];omega
theorem q0v {p s v r:Bs} (hp:p ≠ []) (h:toX p s=.ok v r):r.length + v.length + p.length=s.length:=by
 unfold toX at h
 cases he:z05 p s with
 | none=>rw[he] at h;cases h
 | some x =>
  rw[he] at h;injection h with h1 h2;have:=z5n p hp s x he;rw[← h1,← h2];exact this
theorem z3o {s r:Bs} {u:Unit} (h:z16 s=some (.ok u r)):r.length < s.length:=by
 unfold z16 at h
 split at h
 ·rename_i hp
  have:=z15 hp
  cases he:z05 [45,45,62] (s.drop 4) with
  | none=>rw[he] at h;cases h
  | some x =>
   rw[he] at h;injection h with h;injection h with _ h2;have hh:=z5n [45,45,62] (by simp) _ x he;rw[List.length_drop] at hh;rw[← h2];simp only [List.length_cons,List.length_nil] at this hh ⊢;omega
 split at h
 ·rename_i hp
  have:=z15 hp
  cases he:z05 [63,62] (s.drop 2) with
  | none=>rw[he] at h;cases h
  | some x =>
   rw[he] at h;injection h with h;injection h with _ h2;have hh:=z5n [63,62] (by simp) _ x he;rw[List.length_drop] at hh;rw[← h2];simp only [List.length_cons,List.length_nil] at this hh ⊢;omega
 ·cases h
theorem y0s {s v r:Bs} (h:z3h s=.ok v r):r.length < s.length:=by
 unfold z3h at h;simp only at h;generalize (if Mg.pre [39] s=true then (39:UInt8) else 34)=q at h
 cases hn:z0b [q] s with
 | er e=>rw[hn] at h;cases h
 | ok u r1 =>
  rw[hn] at h;simp only at h;have h1:=z18 hn
  cases ht:toX [q] r1 with
  | er e=>rw[ht] at h;cases h
  | ok v1 r2 =>
   rw[ht] at h;simp only at h;have h2:=q0v (by simp) ht;simp only [List.length_cons,List.length_nil] at h1 h2
   split at h
   ·cases h
   split at h
   ·injection h with _ h4
    rw[← h4];omega
   ·cases h
theorem q5c {s r:Bs} {a:At} (h:z4l s=.ok a r):r.length < s.length:=by
 unfold z4l at h
 cases h1:V8 s with
 | er e=>rw[h1] at h;cases h
 | ok n r1 =>
  rw[h1] at h;simp only at h;have l1:=z5i h1
  cases h2:z0b [61] (X4 r1) with
  | er e=>rw[h2] at h;cases h
  | ok u r2 =>
   rw[h2] at h;simp only at h;have l2:=z18 h2;have l3:=q0b r1;simp only [List.length_cons,List.length_nil] at l2
   cases h3:z3h (X4 r2) with
   | er e=>rw[h3] at h;cases h
   | ok v z =>
    rw[h3] at h;injection h with _ h5;have l4:=y0s h3;have l5:=q0b r2;rw[← h5];omega
theorem q73:∀ (n:Nat) (s:Bs) (out l:List At) (r:Bs),z06 n s out=.ok l r→r.length≤s.length
 | 0,s,out,l,r,h=>by rw[z06] at h;injection h with _ h2;rw[← h2];exact Nat.le_refl _
 | n + 1,s,out,l,r,h=>by
  rw[z06] at h
  split at h
  ·rename_i hl
   cases hs:X4 s with
   | nil=>rw[hs] at h;injection h with _ h2;rw[← h2];exact Nat.zero_le _
   | cons c t =>
    rw[hs] at h hl;simp only at h
    split at h
    ·cases ha:z4l (c :: t) with
     | er e=>rw[ha] at h;cases h
     | ok a r1 =>
      rw[ha] at h;simp only at h;have l1:=q5c ha
      split at h
      ·cases h
      ·have:=q73 n r1 _ l r h
       omega
    ·injection h with _ h2;rw[← h2];omega
  ·injection h with _ h2;rw[← h2];exact Nat.le_refl _
theorem q1x {s r:Bs} {l:List At} (h:z2a s=.ok l r):r.length≤s.length:=q73 _ _ _ _ _ h
theorem z5o:∀ (n m:Nat) (s:Bs) (out:List At),s.length < n→s.length < m→z06 n s out=z06 m s out
 | 0,m,s,out,h,_=>by omega
 | n + 1,0,s,out,_,h=>by omega
 | n + 1,m + 1,s,out,h1,h2=>by
  rw[z06,z06]
  by_cases hl:(X4 s).length < s.length
  ·rw[if_pos hl,if_pos hl]
   cases hs:X4 s with
   | nil=>rfl
   | cons c t =>
    rw[hs] at hl;simp only
    split
    ·cases ha:z4l (c :: t) with
     | er e=>rfl
     | ok a r1 =>
      simp only;have l1:=q5c ha
      split
      ·rfl
      ·exact z5o n m r1 _ (by omega) (by omega)
    ·rfl
  ·rw[if_neg hl,if_neg hl]
theorem z7n:∀ (n m:Nat) (s:Bs),s.length < n→s.length < m→z6r n s=z6r m s
 | 0,m,s,h,_=>by omega
 | n + 1,0,s,_,h=>by omega
 | n + 1,m + 1,s,h1,h2=>by
  rw[z6r,z6r]
  split
  ·exact z7n n m _ (by omega) (by omega)
  ·cases ha:z16 s with
   | none=>rfl
   | some x =>
    cases x with
    | er e=>rfl
    | ok u r=>have:=z3o ha;exact z7n n m r (by omega) (by omega)
mutual
theorem q5p:∀ (n:Nat) (deep:Int) (s:Bs) (x:El) (r:Bs),z4a n deep s=.ok x r→r.length < s.length
 | 0,deep,s,x,r,h=>by rw[z4a] at h;cases h
 | n + 1,deep,s,x,r,h=>by
  rw[z4a] at h
  cases h1:z0b [60] s with
  | er e=>rw[h1] at h;cases h
  | ok u1 r1 =>
  rw[h1] at h;simp only at h;have l1:=z18 h1;simp only [List.length_cons,List.length_nil] at l1
  cases h2:V8 r1 with
  | er e=>rw[h2] at h;cases h
  | ok nm r2 =>
  rw[h2] at h;simp only at h;have l2:=z5i h2
  split at h
  ·cases h
  cases h3:z2a r2 with
  | er e=>rw[h3] at h;cases h
  | ok l r3 =>
  rw[h3] at h;simp only at h;have l3:=q1x h3
  split at h
  ·injection h with _ hr;rw[← hr,List.length_drop];omega
  cases h4:z0b [62] r3 with
  | er e=>rw[h4] at h;cases h
  | ok u4 r4 =>
  rw[h4] at h;simp only at h;have l4:=z18 h4;simp only [List.length_cons,List.length_nil] at l4
  cases h5:z1h n deep r4 .nil with
  | er e=>rw[h5] at h;cases h
  | ok k r5 =>
  rw[h5] at h;simp only at h;have l5:=z9e n deep r4 .nil k r5 h5
  cases h6:V8 r5 with
  | er e=>rw[h6] at h;cases h
  | ok nm2 r6 =>
  rw[h6] at h;simp only at h;have l6:=z5i h6
  split at h
  ·cases h
  cases h7:z0b [62] (X4 r6) with
  | er e=>rw[h7] at h;cases h
  | ok u7 r7 =>
  rw[h7] at h;injection h with _ hr;have l7:=z18 h7;have l8:=q0b r6;simp only [List.length_cons,List.length_nil] at l7;rw[← hr];omega
theorem z9e:∀ (n:Nat) (deep:Int) (s:Bs) (out k:Fo) (r:Bs),z1h n deep s out=.ok k r→r.length < s.length
 | 0,deep,s,out,k,r,h=>by rw[z1h] at h;cases h
 | n + 1,deep,s,out,k,r,h=>by
  rw[z1h] at h
  split at h
  ·rename_i hp
   have:=z15 hp;injection h with _ hr;simp only [List.length_cons,List.length_nil] at this;rw[← hr,List.length_drop];omega
  split at h
  ·rename_i hp
   have:=z15 hp;simp only [List.length_cons,List.length_nil] at this
   cases h1:toX [93,93,62] (s.drop 9) with
   | er e=>rw[h1] at h;cases h
   | ok t1 r1 =>
    rw[h1] at h;simp only at h;have l1:=q0v (by simp) h1;rw[List.length_drop] at l1;have:=z9e n deep r1 _ k r h;omega
  cases ha:z16 s with
  | some x =>
   rw[ha] at h
   cases x with
   | er e=>cases h
   | ok u r1 =>
    simp only at h;have:=z3o ha;have:=z9e n deep r1 _ k r h;omega
  | none =>
   rw[ha] at h;simp only at h
   split at h
   ·cases he:z4a n (deep + 1) s with
    | er e=>rw[he] at h;cases h
    | ok x r1 =>
     rw[he] at h;simp only at h;have:=q5p n (deep + 1) s x r1 he;have:=z9e n deep r1 _ k r h;omega
   ·cases hz:z05 [60] s with
    | none=>rw[hz] at h;cases h
    | some y =>
     rw[hz] at h;simp only at h
     split at h
     ·have:=z9e n deep _ _ k r h
      rw[List.length_drop] at this;omega
     ·cases h
end
mutual
theorem q4a:∀ (n m:Nat) (deep:Int) (s:Bs),s.length≤n→s.length≤m→z4a n deep s=z4a m deep s
 | 0,0,deep,s,_,_=>rfl
 | 0,m + 1,deep,s,h,_=>by
  have:s=[]:=List.eq_nil_of_length_eq_zero (by omega);rw[this,z4a,z4a];rfl
 | n + 1,0,deep,s,_,h=>by
  have:s=[]:=List.eq_nil_of_length_eq_zero (by omega);rw[this,z4a,z4a];rfl
 | n + 1,m + 1,deep,s,g1,g2=>by
  rw[z4a,z4a]
  cases h1:z0b [60] s with
  | er e=>rfl
  | ok u1 r1 =>
  simp only;have l1:=z18 h1;simp only [List.length_cons,List.length_nil] at l1
  cases h2:V8 r1 with
  | er e=>rfl
  | ok nm r2 =>
  simp only;have l2:=z5i h2
  split
  ·rfl
  cases h3:z2a r2 with
  | er e=>rfl
  | ok l r3 =>
  simp only;have l3:=q1x h3
  split
  ·rfl
  cases h4:z0b [62] r3 with
  | er e=>rfl
  | ok u4 r4 =>
  simp only;have l4:=z18 h4;simp only [List.length_cons,List.length_nil] at l4;rw[z3k n m deep r4 .nil (by omega) (by omega)]
theorem z3k:∀ (n m:Nat) (deep:Int) (s:Bs) (out:Fo),s.length < n→s.length < m→z1h n deep s out=z1h m deep s out
 | 0,m,deep,s,out,h,_=>by omega
 | n + 1,0,deep,s,out,_,h=>by omega
 | n + 1,m + 1,deep,s,out,g1,g2=>by
  rw[z1h,z1h]
  split
  ·rfl
  split
  ·rename_i hp
   have:=z15 hp;simp only [List.length_cons,List.length_nil] at this
   cases h1:toX [93,93,62] (s.drop 9) with
   | er e=>rfl
   | ok t1 r1 =>
    simp only;have l1:=q0v (by simp) h1;rw[List.length_drop] at l1;exact z3k n m deep r1 _ (by omega) (by omega)
  cases ha:z16 s with
  | some x =>
   cases x with
   | er e=>rfl
   | ok u r1 =>
    simp only;have:=z3o ha;exact z3k n m deep r1 _ (by omega) (by omega)
  | none =>
   simp only
   split
   ·rw[q4a n m (deep + 1) s (by omega) (by omega)]
    cases he:z4a m (deep + 1) s with
    | er e=>rfl
    | ok x r1 =>
     simp only;have:=q5p m (deep + 1) s x r1 he;exact z3k n m deep r1 _ (by omega) (by omega)
   ·rename_i hp
    cases hz:z05 [60] s with
    | none=>rfl
    | some y =>
     simp only;have hy:=z5n [60] (by simp) s y hz
     split
     ·have h0:y.1 ≠ []:=by
       intro h0
       cases s with
       | nil=>rw[z05] at hz;cases hz
       | cons c t =>
        rw[z05,if_neg hp] at hz
        cases he:z05 [60] t with
        | none=>rw[he] at hz;cases hz
        | some z=>rw[he] at hz;injection hz with hz;rw[← hz] at h0;cases h0
      have:0 < y.1.length:=List.length_pos_iff.2 h0;simp only [List.length_cons,List.length_nil] at hy;exact z3k n m deep _ _ (by rw[List.length_drop];omega) (by rw[List.length_drop];omega)
     ·rfl
end
def z5x (deep:Int) (s:Bs):Rs El:=z4a s.length deep s
def z0h (deep:Int) (s:Bs) (out:Fo):Rs Fo:=z1h (s.length + 1) deep s out
theorem z96 {n:Nat} {deep:Int} {s:Bs} (h:s.length≤n):z4a n deep s=z5x deep s:=q4a _ _ _ _ h (Nat.le_refl _)
theorem z6z {n:Nat} {deep:Int} {s:Bs} {out:Fo} (h:s.length < n):z1h n deep s out=z0h deep s out:=z3k _ _ _ _ _ h (Nat.lt_succ_self _)
def z1w:Bs:=[60,33,91,67,68,65,84,65,91]
theorem j04 {deep:Int} {s:Bs} {out:Fo} (h:Mg.pre [60,47] s=true):z0h deep s out=.ok out (s.drop 2):=by
 unfold z0h;rw[z1h,if_pos h]
theorem q60 {deep:Int} {s:Bs} {out:Fo} {e:Int} (h:Mg.pre [60,47] s=false) (h2:Mg.pre z1w s=true) (h3:toX [93,93,62] (s.drop 9)=.er e):z0h deep s out=.er e:=by
 unfold z0h;rw[z1h,if_neg (by rw[h];simp),if_pos (show Mg.pre [60,33,91,67,68,65,84,65,91] s=true from h2),h3]
theorem j4x {deep:Int} {s t r:Bs} {out:Fo} (h:Mg.pre [60,47] s=false) (h2:Mg.pre z1w s=true) (h3:toX [93,93,62] (s.drop 9)=.ok t r):z0h deep s out=z0h deep r (q0f out t):=by
 have l1:=q0v (by simp) h3;have l2:=z15 h2;unfold z1w at l2;simp only [List.length_drop,List.length_cons,List.length_nil] at l1 l2;show z1h (s.length + 1) deep s out=_;rw[z1h,if_neg (by rw[h];simp),if_pos (show Mg.pre [60,33,91,67,68,65,84,65,91] s=true from h2),h3];exact z6z (by omega)
theorem q3l {deep:Int} {s:Bs} {out:Fo} {e:Int} (h:Mg.pre [60,47] s=false) (h2:Mg.pre z1w s=false) (h3:z16 s=some (.er e)):z0h deep s out=.er e:=by
 have h2':¬ Mg.pre [60,33,91,67,68,65,84,65,91] s=true:=by intro q;rw[show Mg.pre z1w s=true from q] at h2;cases h2
 unfold z0h;rw[z1h,if_neg (by rw[h];simp),if_neg h2',h3]
theorem j03 {deep:Int} {s r:Bs} {u:Unit} {out:Fo} (h:Mg.pre [60,47] s=false) (h2:Mg.pre z1w s=false) (h3:z16 s=some (.ok u r)):z0h deep s out=z0h deep r out:=by
 have h2':¬ Mg.pre [60,33,91,67,68,65,84,65,91] s=true:=by intro q;rw[show Mg.pre z1w s=true from q] at h2;cases h2
 have l1:=z3o h3;show z1h (s.length + 1) deep s out=_;rw[z1h,if_neg (by rw[h];simp),if_neg h2',h3];exact z6z (by omega)
theorem q61 {deep:Int} {s:Bs} {out:Fo} {e:Int} (h:Mg.pre [60,47] s=false) (h2:Mg.pre z1w s=false) (h3:z16 s=none) (h4:Mg.pre [60] s=true) (h5:z5x (deep + 1) s=.er e):z0h deep s out=.er e:=by
 have h2':¬ Mg.pre [60,33,91,67,68,65,84,65,91] s=true:=by intro q;rw[show Mg.pre z1w s=true from q] at h2;cases h2
 unfold z0h;rw[z1h,if_neg (by rw[h];simp),if_neg h2',h3];simp only;rw[if_pos h4,z96 (Nat.le_refl _),h5]
theorem j4y {deep:Int} {s r:Bs} {x:El} {out:Fo} (h:Mg.pre [60,47] s=false) (h2:Mg.pre z1w s=false) (h3:z16 s=none) (h4:Mg.pre [60] s=true) (h5:z5x (deep + 1) s=.ok x r):z0h deep s out=z0h deep r (out.app (.node x.name x.ats [] x.kids .nil)):=by
 have h2':¬ Mg.pre [60,33,91,67,68,65,84,65,91] s=true:=by intro q;rw[show Mg.pre z1w s=true from q] at h2;cases h2
 have l1:=q5p _ _ _ _ _ h5;show z1h (s.length + 1) deep s out=_;rw[z1h,if_neg (by rw[h];simp),if_neg h2',h3];simp only;rw[if_pos h4,z96 (Nat.le_refl _),h5];exact z6z (by omega)
theorem q63 {deep:Int} {s:Bs} {out:Fo} (h:Mg.pre [60,47] s=false) (h2:Mg.pre z1w s=false) (h3:z16 s=none) (h4:Mg.pre [60] s=false) (h5:z05 [60] s=none):z0h deep s out=.er 1:=by
 have h2':¬ Mg.pre [60,33,91,67,68,65,84,65,91] s=true:=by intro q;rw[show Mg.pre z1w s=true from q] at h2;cases h2
 unfold z0h;rw[z1h,if_neg (by rw[h];simp),if_neg h2',h3];simp only;rw[if_neg (by rw[h4];simp),h5]
theorem q62 {deep:Int} {s:Bs} {out:Fo} {y:Bs × Bs} (h:Mg.pre [60,47] s=false) (h2:Mg.pre z1w s=false) (h3:z16 s=none) (h4:Mg.pre [60] s=false) (h5:z05 [60] s=some y) (h6:(Mk.take y.1).2=false):z0h deep s out=.er 1:=by
 have h2':¬ Mg.pre [60,33,91,67,68,65,84,65,91] s=true:=by intro q;rw[show Mg.pre z1w s=true from q] at h2;cases h2
 unfold z0h;rw[z1h,if_neg (by rw[h];simp),if_neg h2',h3];simp only;rw[if_neg (by rw[h4];simp),h5];simp only;rw[if_neg (by rw[h6];simp)]
theorem q5a {s:Bs} {y:Bs × Bs} (hp:Mg.pre [60] s=false) (hz:z05 [60] s=some y):y.1 ≠ []:=by
 intro h0
 cases s with
 | nil=>rw[z05] at hz;cases hz
 | cons c t =>
  rw[z05,if_neg (by rw[hp];simp)] at hz
  cases he:z05 [60] t with
  | none=>rw[he] at hz;cases hz
  | some z=>rw[he] at hz;injection hz with hz;rw[← hz] at h0;cases h0
theorem j4z {deep:Int} {s:Bs} {out:Fo} {y:Bs × Bs} (h:Mg.pre [60,47] s=false) (h2:Mg.pre z1w s=false) (h3:z16 s=none) (h4:Mg.pre [60] s=false) (h5:z05 [60] s=some y) (h6:(Mk.take y.1).2=true):z0h deep s out=z0h deep (s.drop y.1.length) (q0f out (Mk.take y.1).1):=by
 have h2':¬ Mg.pre [60,33,91,67,68,65,84,65,91] s=true:=by intro q;rw[show Mg.pre z1w s=true from q] at h2;cases h2
 have h0:=List.length_pos_iff.2 (q5a h4 h5);have hy:=z5n [60] (by simp) s y h5;simp only [List.length_cons,List.length_nil] at hy;show z1h (s.length + 1) deep s out=_;rw[z1h,if_neg (by rw[h];simp),if_neg h2',h3];simp only;rw[if_neg (by rw[h4];simp),h5];simp only;rw[if_pos h6];exact z6z (by rw[List.length_drop];omega)
theorem q1h (deep:Int) (s:Bs):z5x deep s =
  match z0b [60] s with
  | .er e=>.er e
  | .ok _ r =>
   match V8 r with
   | .er e=>.er e
   | .ok nm u =>
    if 8 < deep then .er 2
    else match z2a u with
     | .er e=>.er e
     | .ok l z =>
      if Mg.pre [47,62] z then .ok ⟨nm,l,.nil⟩ (z.drop 2)
      else match z0b [62] z with
       | .er e=>.er e
       | .ok _ y =>
        match z0h deep y .nil with
        | .er e=>.er e
        | .ok k x =>
         match V8 x with
         | .er e=>.er e
         | .ok nm2 v=>if nm2 ≠ nm then .er 4 else
          match z0b [62] (X4 v) with
          | .er e=>.er e
          | .ok _ o=>.ok ⟨nm,l,k⟩ o:=by
 rw[← z96 (Nat.le_succ s.length),z4a]
 cases h1:z0b [60] s with
 | er e=>rfl
 | ok u1 r1 =>
 simp only;have l1:=z18 h1;simp only [List.length_cons,List.length_nil] at l1
 cases h2:V8 r1 with
 | er e=>rfl
 | ok nm r2 =>
 simp only;have l2:=z5i h2
 split
 ·rfl
 cases h3:z2a r2 with
 | er e=>rfl
 | ok l r3 =>
 simp only;have l3:=q1x h3
 split
 ·rfl
 cases h4:z0b [62] r3 with
 | er e=>rfl
 | ok u4 r4 =>
 simp only;have l4:=z18 h4;simp only [List.length_cons,List.length_nil] at l4;rw[z6z (show r4.length < s.length by omega)];rfl
theorem y0v (s:Bs):xmlR s =
  match z3u s with
  | .er e=>(⟨[],[],.nil⟩,e)
  | .ok _ r =>
   match z5x 1 r with
   | .er e=>(⟨[],[],.nil⟩,e)
   | .ok x u =>
    match z3u u with
    | .er e=>(⟨[],[],.nil⟩,e)
    | .ok _ v=>if v=[] then (x,0) else (⟨[],[],.nil⟩,1):=by
 unfold xmlR
 cases h1:z3u s with
 | er e=>rfl
 | ok u r=>simp only;rw[z96 (Nat.le_succ r.length)];rfl
theorem j08 {s:Bs} (h:(X4 s).length < s.length):z3u s=z3u (X4 s):=by
 show z6r (s.length + 1) s=_;rw[z6r,if_pos h];exact z7n _ _ _ (by omega) (by omega)
theorem j9l {s:Bs} (h:¬ (X4 s).length < s.length) (h2:z16 s=none):z3u s=.ok () s:=by
 show z6r (s.length + 1) s=_;rw[z6r,if_neg h,h2]
theorem miscX_er {s:Bs} {e:Int} (h:¬ (X4 s).length < s.length) (h2:z16 s=some (.er e)):z3u s=.er e:=by
 show z6r (s.length + 1) s=_;rw[z6r,if_neg h,h2]
theorem j07 {s r:Bs} {u:Unit} (h:¬ (X4 s).length < s.length) (h2:z16 s=some (.ok u r)):z3u s=z3u r:=by
 have l1:=z3o h2;show z6r (s.length + 1) s=_;rw[z6r,if_neg h,h2];exact z7n _ _ _ (by omega) (by omega)
def z4d (s:Bs) (out:List At):Rs (List At):=z06 (s.length + 1) s out
theorem j7f {s:Bs} {out:List At} (h:¬ (X4 s).length < s.length):z4d s out=.ok out s:=by
 unfold z4d;rw[z06,if_neg h]
theorem j3o {s:Bs} {out:List At} (h:(X4 s).length < s.length) (h2:X4 s=[]):z4d s out=.ok out []:=by
 unfold z4d;rw[z06,if_pos h,h2]
theorem j3n {s t:Bs} {c:UInt8} {out:List At} (h:(X4 s).length < s.length) (h2:X4 s=c :: t) (h3:z1y true c=false):z4d s out=.ok out (c :: t):=by
 unfold z4d;rw[z06,if_pos h,h2];simp only;rw[if_neg (by rw[h3];simp)]
theorem j7e {s t:Bs} {c:UInt8} {e:Int} {out:List At} (h:(X4 s).length < s.length) (h2:X4 s=c :: t) (h3:z1y true c=true) (h4:z4l (c :: t)=.er e):z4d s out=.er e:=by
 unfold z4d;rw[z06,if_pos h,h2];simp only;rw[if_pos h3,h4]
theorem j3m {s t r:Bs} {c:UInt8} {a:At} {out:List At} (h:(X4 s).length < s.length) (h2:X4 s=c :: t) (h3:z1y true c=true) (h4:z4l (c :: t)=.ok a r) (h5:Q9 z03 [] (out++[a]) ≠ 0):z4d s out=.er 6:=by
 unfold z4d;rw[z06,if_pos h,h2];simp only;rw[if_pos h3,h4];simp only;rw[if_pos h5]
theorem q9e {s t r:Bs} {c:UInt8} {a:At} {out:List At} (h:(X4 s).length < s.length) (h2:X4 s=c :: t) (h3:z1y true c=true) (h4:z4l (c :: t)=.ok a r) (h5:Q9 z03 [] (out++[a])=0):z4d s out=z4d r (out++[a]):=by
 have l1:=q5c h4;rw[h2] at h;show z06 (s.length + 1) s out=_;rw[z06,if_pos (by rw[h2];exact h),h2];simp only;rw[if_pos h3,h4];simp only;rw[if_neg (by rw[h5];simp)];exact z5o _ _ _ _ (by omega) (by omega)
end Fd
namespace Fd
theorem aside_is (s:Bs):z16 s=if Mg.pre [60,33,45,45] s then some (match z05 [45,45,62] (s.drop 4) with | none=>.er 1 | some x=>.ok () x.2) else if Mg.pre [60,63] s then some (match z05 [63,62] (s.drop 2) with | none=>.er 1 | some x=>.ok () x.2) else none:=rfl
end Fd
namespace Go.Proofs.YtjonkbdldebkiaaGreatDoor
open Go.RowKit
section
variable {w w' : World} {R : Nat} {s : ByteArray} {k : Nat}
theorem Moved.blk {N:Nat} {T:TypeId} {cs:Array Value} {a b:World} (h:Moved R a b) (hb:Blk a N T cs) (hN:N ≠ R):Blk b N T cs:=(h.block N hN).trans hb
theorem j2y (hg:Gl w) (hR:4 < R) (h:Xr w R s k) (hk:k≤s.size) (hs:s.size≤1048576) :
  Calls Tryz.prog 212 #[.pointer (some ⟨R,0,none⟩)] w fun e w' =>
   (Fd.z16 (s.data.toList.drop k)=none∧e=.returned (.bool false)∧Xr w' R s k∧Moved R w w')∨(Fd.z16 (s.data.toList.drop k)=some (.er 1)∧e=GaveX 1∧Moved R w w') ∨
   ∃ j,Fd.z16 (s.data.toList.drop k)=some (.ok () (s.data.toList.drop j))∧e=.returned (.bool true)∧k < j∧j≤s.size∧Xr w' R s j∧Moved R w w':=by
 have HA:=Lib.hid (Fd.aside_is (s.data.toList.drop k));rw[List.drop_drop,List.drop_drop] at HA;have HB1:=Lib.hid (z5m [60,33,45,45] h hk hs);have HX:=Lib.hid h;have HG:=Lib.hid hg;clear hg h;generalize Fd.z16 (s.data.toList.drop k)=out at HA ⊢;obtain⟨b1,hb1⟩:∃ b,Mg.pre [60,33,45,45] (s.data.toList.drop k)=b:=⟨_,rfl⟩;rw[hb1] at HB1 HA;have HP1:=Lib.hid hb1;clear hb1;have HROOM:Hid (∀ p:List UInt8,Mg.pre p (s.data.toList.drop k)=true→k + p.length≤s.size):=by
  intro p hp;have h3:=Fd.z15 hp;rw[List.length_drop,bs_len] at h3
  by_cases q:p.length=0
  ·omega
  ·omega
 cases b1 with
 | true =>
  rw[if_pos rfl] at HA;have h4:k + 4≤s.size:=HROOM.out _ HP1.out;go_enter Tryz.func212,Tryz.ntmps212;go_wp2_with fail;refine HB1.out.mono ?_;rintro e w1 ⟨rfl,n,hw1⟩;subst hw1;have X1:=HX.out.drewN n;have d1:=X1.c1;have g1:=X1.fz 1;have X2:Hid (Xr ((w.drewN n).setCell ⟨R,1,none⟩ (.int .i64 ((k:Int) + 4))) R s (k + 4)):=by show Xr _ _ _ _;have:=X1.at_ (k + 4);simpa using this
  have MV2:=Lib.hid (((Moved.refl R w).drewN n).setCell 1 (.int .i64 ((k:Int) + 4)));have GL2:=Lib.hid (HG.out.below (MV2.out.below (Nat.le_refl _)) hR);clear X1;go_upto_region 4 with fail;generalize ((w.drewN n).setCell ⟨R,1,none⟩ (.int .i64 ((k:Int) + 4)))=w2 at X2 MV2 GL2 ⊢;have HT:=Lib.hid (xr_to [45,45,62] GL2.out X2.out h4 hs (by decide) (by decide));go_wp2_with fail;refine HT.out.mono ?_;rintro e w3 (⟨ha,rfl,n3,hw3⟩ | ⟨a,j,ha,rfl,hkj,hjs,hx,hm⟩)
  ·subst hw3
   rw[ha] at HA;clear ha;go_wp2_with fail;exact⟨rfl,.inr (.inl ⟨HA.out,rfl,MV2.out.drewN _⟩)⟩
  ·rw[ha] at HA
   have R1:=Lib.hid hx;have R2:=Lib.hid (MV2.out.trans hm);clear ha hx hm;go_wp2_with fail;go_ret;exact .inr (.inr ⟨j,HA.out,by rfl,by omega,hjs,R1.out,R2.out⟩)
 | false =>
  rw[if_neg (by decide)] at HA;go_enter Tryz.func212,Tryz.ntmps212;go_wp2_with fail;refine HB1.out.mono ?_;rintro e w1 ⟨rfl,n,hw1⟩;subst hw1;have X1:=Lib.hid (HX.out.drewN n);have HB2:=Lib.hid (z5m [60,63] X1.out hk hs);obtain⟨b2,hb2⟩:∃ b,Mg.pre [60,63] (s.data.toList.drop k)=b:=⟨_,rfl⟩;rw[hb2] at HB2 HA;have HP2:=Lib.hid hb2;clear hb2 HB1;go_wp2_with fail;refine HB2.out.mono ?_;rintro e w1 ⟨rfl,n2,hw1⟩;subst hw1
  cases b2 with
  | true =>
   rw[if_pos rfl] at HA;have h4:k + 2≤s.size:=HROOM.out _ HP2.out;have X1:=HX.out.drewN (n + n2);have d1:=X1.c1;have g1:=X1.fz 1;have X2:Hid (Xr ((w.drewN (n + n2)).setCell ⟨R,1,none⟩ (.int .i64 ((k:Int) + 2))) R s (k + 2)):=by show Xr _ _ _ _;have:=X1.at_ (k + 2);simpa using this
   have MV2:=Lib.hid (((Moved.refl R w).drewN (n + n2)).setCell 1 (.int .i64 ((k:Int) + 2)));have GL2:=Lib.hid (HG.out.below (MV2.out.below (Nat.le_refl _)) hR);clear X1;go_upto_region 7 with fail;generalize ((w.drewN (n + n2)).setCell ⟨R,1,none⟩ (.int .i64 ((k:Int) + 2)))=w2 at X2 MV2 GL2 ⊢;have HT:=Lib.hid (xr_to [63,62] GL2.out X2.out h4 hs (by decide) (by decide));go_wp2_with fail;refine HT.out.mono ?_;rintro e w3 (⟨ha,rfl,n3,hw3⟩ | ⟨a,j,ha,rfl,hkj,hjs,hx,hm⟩)
   ·subst hw3
    rw[ha] at HA;clear ha;go_wp2_with fail;exact⟨rfl,.inr (.inl ⟨HA.out,rfl,MV2.out.drewN _⟩)⟩
   ·rw[ha] at HA
    have R1:=Lib.hid hx;have R2:=Lib.hid (MV2.out.trans hm);clear ha hx hm;go_wp2_with fail;go_ret;exact .inr (.inr ⟨j,HA.out,by rfl,by omega,hjs,R1.out,R2.out⟩)
  | false =>
   rw[if_neg (by decide)] at HA;go_wp2_with fail;go_ret;exact .inl ⟨HA.out,by rfl,HX.out.drewN _,(Moved.refl R w).drewN _⟩
theorem y0x (hg:Gl w) (hR:4 < R) (h:Xr w R s k) (hk:k≤s.size) (hs:s.size≤1048576) :
  Calls Tryz.prog 164 #[.pointer (some ⟨R,0,none⟩)] w fun e w' =>
   (Fd.z3u (s.data.toList.drop k)=.er 1∧e=GaveX 1∧Moved R w w')∨∃ j,Fd.z3u (s.data.toList.drop k)=.ok () (s.data.toList.drop j)∧e=.returned (.tuple #[])∧k≤j∧j≤s.size∧Xr w' R s j∧Moved R w w':=by
 have HX:=Lib.hid h;have HG:=Lib.hid hg;clear hg h;go_enter Tryz.func164,Tryz.ntmps164;go_wp2_with fail
 go_loopg [] s.size (fun g wx=>∃ j:Nat,k≤j∧j≤s.size∧s.size≤j + g∧Hid (Fd.z3u (s.data.toList.drop k)=Fd.z3u (s.data.toList.drop j))∧Hid (Xr wx R s j)∧Hid (Moved R w wx))
 case atStart=>exact⟨k,Nat.le_refl _,hk,by omega,rfl,HX,Moved.refl R w⟩
 case round =>
  obtain⟨j,hkj,hjs,hfu,HM,X,MV⟩:=hrel;have HW:=Lib.hid (q1o X.out hjs hs);go_wp2_with fail;refine HW.out.mono ?_;rintro e w1 ⟨j1,hj1,hjs1,rfl,hsk,hx1,hm1⟩;have X1:=Lib.hid hx1;have MV1:=Lib.hid (MV.out.trans hm1);have HSK:=Lib.hid hsk;clear hx1 hm1 hsk HW;have hlen1:(Fd.X4 (s.data.toList.drop j)).length=s.size - j1:=by rw[← HSK.out,List.length_drop,bs_len]
  have hlen0:(s.data.toList.drop j).length=s.size - j:=by rw[List.length_drop,bs_len]
  have HL1:=Lib.hid hlen1;have HL0:=Lib.hid hlen0;clear hlen1 hlen0
  by_cases hlt:j < j1
  ·have hp:(0:Int) < (j1:Int) - j:=by omega
   have HN:Hid (Fd.z3u (s.data.toList.drop k)=Fd.z3u (s.data.toList.drop j1)):=by
    show _=_;rw[HM.out,Fd.j08 (by rw[HL1.out,HL0.out];omega),← HSK.out]
   obtain⟨g',rfl⟩:∃ g',gk=g' + 1:=⟨gk - 1,by omega⟩;go_wp2_with fail
   go_roundg g'
   case measure=>omega
   case rel=>exact⟨j1,by omega,hjs1,by omega,HN,X1,MV1⟩
  ·have hje:j1=j:=by omega
   subst hje;have hp:¬ (0:Int) < (j1:Int) - j1:=by omega
   have hno:¬ (Fd.X4 (s.data.toList.drop j1)).length < (s.data.toList.drop j1).length:=by rw[HL1.out,HL0.out];omega
   have HNO:=Lib.hid hno;clear hno;have GL1:=Lib.hid (HG.out.below (MV1.out.below (Nat.le_refl _)) hR);have HAS:=Lib.hid (j2y GL1.out hR X1.out hjs hs);go_wp2_with fail;refine HAS.out.mono ?_;rintro e w2 (⟨ha,rfl,hx,hm⟩ | ⟨ha,rfl,hm⟩ | ⟨j2,ha,rfl,hj2,hjs2,hx,hm⟩)
   ·have HE:Hid (Fd.z3u (s.data.toList.drop k)=.ok () (s.data.toList.drop j1)):=by show _=_;rw[HM.out,Fd.j9l HNO.out ha]
    have R1:=Lib.hid hx;have R2:=Lib.hid (MV1.out.trans hm);clear ha hx hm;go_wp2_with fail;go_end0;exact .inr ⟨j1,HE.out,by rfl,hkj,hjs,R1.out,R2.out⟩
   ·have HE:Hid (Fd.z3u (s.data.toList.drop k)=.er 1):=by show _=_;rw[HM.out,Fd.miscX_er HNO.out ha]
    have R2:=Lib.hid (MV1.out.trans hm);clear ha hm;go_wp2_with fail;exact⟨rfl,.inl ⟨HE.out,rfl,R2.out⟩⟩
   ·have HN:Hid (Fd.z3u (s.data.toList.drop k)=Fd.z3u (s.data.toList.drop j2)):=by show _=_;rw[HM.out,Fd.j07 HNO.out ha]
    have R1:=Lib.hid hx;have R2:=Lib.hid (MV1.out.trans hm);clear ha hx hm;obtain⟨g',rfl⟩:∃ g',gk=g' + 1:=⟨gk - 1,by omega⟩;go_wp2_with fail
    go_roundg g'
    case measure=>omega
    case rel=>exact⟨j2,by omega,hjs2,by omega,HN,R1,R2⟩
end
end Go.Proofs.YtjonkbdldebkiaaGreatDoor
namespace Fd
theorem q4v (s:Bs) (f:Bool) (c:UInt8) (t:Bs) (h:s=c :: t):z6j f s=if z1y f c then c :: z6j false t else []:=by rw[h];rfl
end Fd
namespace Go.Proofs.YtjonkbdldebkiaaGreatDoor
open Go.RowKit
section
variable {w w' : World} {R : Nat} {s : ByteArray} {k : Nat}
theorem q6y (h:Xr w R s k) (hk:k≤s.size) (hs:s.size≤1048576) :
  Calls Tryz.prog 214 #[.pointer (some ⟨R,0,none⟩)] w fun e w' =>
   (Fd.V8 (s.data.toList.drop k)=.er 1∧e=GaveX 1∧Moved R w w')∨∃ nm j,Fd.V8 (s.data.toList.drop k)=.ok nm (s.data.toList.drop j)∧e=.returned (.string (st nm))∧k≤j∧j≤s.size∧Xr w' R s j∧Moved R w w'∧Fd.z03 nm=true:=by
 have c1:=h.c1;have HX:=Lib.hid h;have HTX:Hid (Fd.V8 (s.data.toList.drop k)=if Fd.z03 (Fd.z6j true (s.data.toList.drop k)) then .ok (Fd.z6j true (s.data.toList.drop k)) ((s.data.toList.drop k).drop (Fd.z6j true (s.data.toList.drop k)).length) else .er 1):=rfl;clear h;go_enter Tryz.func214,Tryz.ntmps214;go_wp2_with fail;clear c1
 go_loopg [] s.size (fun g wx=>∃ j:Nat,k≤j∧j≤s.size∧s.size≤j + g∧Hid (Fd.z6j true (s.data.toList.drop k)=(s.data.toList.drop k).take (j - k)++Fd.z6j (decide (j=k)) (s.data.toList.drop j))∧Hid (Xr wx R s j)∧Hid (Moved R w wx))
 case atStart=>exact⟨k,Nat.le_refl _,hk,by omega,by show _=_;rw[Nat.sub_self,List.take_zero,List.nil_append,decide_eq_true rfl],HX,Moved.refl R w⟩
 case round =>
  obtain⟨j,hkj,hjs,hfu,HS,X,MV⟩:=hrel;have c0:=X.out.c0;have c1:=X.out.c1;have f1:=X.out.fz 1;have HFIN:Hid (Fd.z6j (decide (j=k)) (s.data.toList.drop j)=[]→(Fd.z6j true (s.data.toList.drop k)=(s.data.toList.drop k).take (j - k)∧(Fd.z6j true (s.data.toList.drop k)).length=j - k)):=by
   intro q;have h1:=HS.out;rw[q,List.append_nil] at h1;refine⟨h1,?_⟩;rw[h1,List.length_take,List.length_drop,bs_len];omega
  have hx:s.extract k j=st ((s.data.toList.drop k).take (j - k)):=by rw[Z9]
  have hkj1:(k:Int)≤j:=by omega
  have hjs1:(j:Int)≤s.size:=by omega
  by_cases hgo:∃ q:j < s.size,Fd.z1y (decide (j=k)) s[j]=true
  ·obtain⟨hlt,hb⟩:=hgo
   have hj1:(j:Int) < s.size:=by omega
   have hdr:=z02 s j hlt;have HW:=Lib.hid (fun W=>z4k s[j] (decide (j=k)) W);have HSK:Hid (Fd.z6j (decide (j=k)) (s.data.toList.drop j)=s[j] :: Fd.z6j false (s.data.toList.drop (j + 1))):=by
    show _=_;rw[Fd.q4v _ _ _ _ hdr,hb,if_pos rfl]
   have HTA:Hid ((s.data.toList.drop k).take (j + 1 - k)=(s.data.toList.drop k).take (j - k)++[s[j]]):=by
    show _=_;have hlt2:j - k < (s.data.toList.drop k).length:=by rw[List.length_drop,bs_len];omega
    rw[show j + 1 - k=(j - k) + 1 by omega,List.take_succ_eq_append_getElem hlt2]
    congr 2
    rw[List.getElem_drop];have:k + (j - k)=j:=by omega
    simp only [this];rfl
   have hjk:((j:Int) == (k:Int))=decide (j=k):=by rw[Bool.eq_iff_iff,beq_iff_eq,decide_eq_true_iff];omega
   rw[hb] at HW;obtain⟨g',rfl⟩:∃ g',gk=g' + 1:=⟨gk - 1,by omega⟩;clear hb hdr HFIN hx;go_wp2_with fail
   go_quiet ((go_at_call 218;exact Calls.quiet_of_same (HW.out _)))
   go_wp2_with fail
   go_roundg g'
   case measure=>omega
   case rel=>exact⟨j + 1,by omega,by omega,by omega,by show _=_;rw[HS.out,HSK.out,HTA.out,decide_eq_false (by omega:¬ j + 1=k)];simp,by show Xr _ _ _ _;have:=(X.out.drewN nq).at_ (j + 1);simpa using this,(MV.out.drewN _).setCell 1 _⟩
  ·have hnil:Fd.z6j (decide (j=k)) (s.data.toList.drop j)=[]:=by
    by_cases hlt:j < s.size
    ·rw[Fd.q4v _ _ _ _ (z02 s j hlt),if_neg (fun q=>hgo ⟨hlt,q⟩)]
    ·rw[List.drop_of_length_le (by rw[bs_len];omega)];rfl
   obtain⟨hn1,hn2⟩:=HFIN.out hnil;have HTI:=Lib.hid (fun W=>j2x ((s.data.toList.drop k).take (j - k)) W (by rw[List.length_take,List.length_drop,bs_len];omega));have HE0:Hid (Fd.V8 (s.data.toList.drop k)=if Fd.z03 ((s.data.toList.drop k).take (j - k)) then .ok ((s.data.toList.drop k).take (j - k)) (s.data.toList.drop j) else .er 1):=by
    show _=_;rw[HTX.out,hn2,hn1,List.drop_drop,show k + (j - k)=j by omega]
   clear hnil hn1 hn2 HFIN HS;obtain⟨b,hb⟩:∃ b,Fd.z03 ((s.data.toList.drop k).take (j - k))=b:=⟨_,rfl⟩;have HBT:=Lib.hid hb;rw[hb] at HTI HE0;clear hb;clear HTX
   by_cases hlt:j < s.size
   ·have hj1:(j:Int) < s.size:=by omega
    have hjk:((j:Int) == (k:Int))=decide (j=k):=by rw[Bool.eq_iff_iff,beq_iff_eq,decide_eq_true_iff];omega
    have HW:=Lib.hid (fun W=>z4k s[j] (decide (j=k)) W);have hf:Fd.z1y (decide (j=k)) s[j]=false:=Bool.eq_false_iff.2 (fun q=>hgo ⟨hlt,q⟩);rw[hf] at HW;clear hf hgo;go_wp2_with fail
    go_quiet ((go_at_call 218;exact Calls.quiet_of_same (HW.out _)))
    go_wp2_with fail
    go_quiet (fail)
    go_wp2_with fail;refine(HTI.out _).mono ?_;rintro e w2 ⟨rfl,hw2⟩;subst w2
    cases b with
    | true =>
     have HE:Hid (Fd.V8 (s.data.toList.drop k)=.ok ((s.data.toList.drop k).take (j - k)) (s.data.toList.drop j)):=by show _=_;rw[HE0.out];rfl
     go_wp2_with fail;go_ret;exact .inr ⟨_,j,HE.out,(by first | rfl | (rw[hx];rfl)),hkj,hjs,X.out.drewN _,MV.out.drewN _,HBT.out⟩
    | false =>
     have HE:Hid (Fd.V8 (s.data.toList.drop k)=.er 1):=by show _=_;rw[HE0.out];rfl
     go_wp2_with fail;refine(z3z 1 _).mono ?_;rintro e w3 ⟨rfl,hw3⟩;subst w3;go_wp2_with fail;exact⟨rfl,.inl ⟨HE.out,rfl,MV.out.drewN _⟩⟩
   ·have hj1:¬ (j:Int) < s.size:=by omega
    clear hgo;go_wp2_with fail
    go_quiet (fail)
    go_wp2_with fail
    go_quiet (fail)
    go_wp2_with fail;refine(HTI.out _).mono ?_;rintro e w2 ⟨rfl,hw2⟩;subst w2
    cases b with
    | true =>
     have HE:Hid (Fd.V8 (s.data.toList.drop k)=.ok ((s.data.toList.drop k).take (j - k)) (s.data.toList.drop j)):=by show _=_;rw[HE0.out];rfl
     go_wp2_with fail;go_ret;exact .inr ⟨_,j,HE.out,(by first | rfl | (rw[hx];rfl)),hkj,hjs,X.out.drewN _,MV.out.drewN _,HBT.out⟩
    | false =>
     have HE:Hid (Fd.V8 (s.data.toList.drop k)=.er 1):=by show _=_;rw[HE0.out];rfl
     go_wp2_with fail;refine(z3z 1 _).mono ?_;rintro e w3 ⟨rfl,hw3⟩;subst w3;go_wp2_with fail;exact⟨rfl,.inl ⟨HE.out,rfl,MV.out.drewN _⟩⟩
end
theorem j1o (args:Array Value) (w:World):(callFunc 167 args).run Tryz.prog w=.ok (.enter 167 args) w:=Z4 Tryz.func167 (by kernel_rfl) rfl _ _
theorem j9n (l:List Mk.At) (v:Value) (K:Nat→Prop) (w:World) (hv:AtsV w K v l) (hK:∀ b,K b→b < w.heap.size) (hl:Mk.Fo.atB l≤1000000) :
  Calls Tryz.prog 168 #[v,.func (.func 167) #[] #[]] w fun e w'=>e=.returned (.int .i64 (Mk.Q9 Fd.z03 [] l))∧Below w.heap.size w w':=by
 have hll:=Mk.z1u l;obtain⟨b,o,cap,hKb,hv1,hcl⟩:=hv.at_
 have HC:=Lib.hid hcl;have EG:=Lib.hid j1o;clear hcl;have eg:=j1o
 rcases hv1 with hv1 | ⟨ao,hv1,hl0⟩
 ·subst hv1
  have hcap:l.length≤cap:=by
   obtain⟨ao',cap',h1,_,h3,_⟩:=hv;injection h1 with _ _ e3;rw[e3];exact h3
  go_enter Tryz.func168,Tryz.ntmps168;go_wp2_with fail
  go_loopw [9] (fun i wr=>∃ k:Nat,k≤l.length∧i=.int .i64 k∧Hid (Mk.Q9 Fd.z03 [] l=Mk.Q9 Fd.z03 (l.take k) (l.drop k))∧Hid (Below w.heap.size w wr)) (fun i _=>l.length - (intOf i).toNat)
  case atStart=>exact⟨0,Nat.zero_le _,rfl,rfl,Below.refl _ _⟩
  case round =>
   obtain⟨k,hk,rfl,HA,BL⟩:=hrel;have hsz:=BL.out.size
   by_cases hlt:k < l.length
   ·have hb:b < w.heap.size:=hK b (hKb (by intro e;subst e;simp at hlt))
    obtain⟨c0,c1⟩:=HC.out k hlt;rw[← BL.out.cell (p:=⟨b,_,none⟩) hb] at c0 c1;have hmem:=Mk.z9s (List.getElem_mem hlt);have HD:Hid (Mk.Q9 Fd.z03 [] l=if !Fd.z03 l[k].n then 1 else if Mk.z0x (l.take k) l[k].n then 6 else Mk.Q9 Fd.z03 (l.take (k + 1)) (l.drop (k + 1))):=by show _=_;rw[HA.out,Mk.z8y _ _ _ hlt]
    generalize l[k]=a at c0 c1 HD hmem;have hnm:=fun W=>j2x a.n W (by omega)
    have hal:=(Below.refl wr.heap.size wr).alloc (Nat.le_refl _) (.cells #[.string (st a.n),.string (st a.v)] 56);have PB:=Lib.hid (Blk.new wr 56 #[.string (st a.n),.string (st a.v)]);have BL1:=Lib.hid (BL.out.trans (hal.mono hsz))
    cases hin:Fd.z03 a.n with
    | false =>
     rw[hin] at HD hnm;have HN:=Lib.hid hnm;clear hnm hin HC HA hal;go_wp2_with fail;refine(HN.out _).mono ?_;rintro e w2 ⟨rfl,rfl⟩;go_wp2_with fail;go_ret;exact⟨by rw[HD.out];rfl,BL1.out⟩
    | true =>
     rw[hin] at HD hnm;have HN:=Lib.hid hnm;obtain⟨hh,hhe⟩:∃ hh,Mk.z0x (l.take k) a.n=hh:=⟨_,rfl⟩;rw[hhe] at HD;have hvw:AtsV (wr.alloc (.cells #[.string (st a.n),.string (st a.v)] 56)) K (.slice (some ⟨b,o,none⟩) k cap) (l.take k):=(AtsV.take hv k hk).below hK BL1.out;have hcf:=z1c 219 #[.pointer (some ⟨wr.heap.size,0,none⟩)] (fun x=>x.n == a.n) q7h (l.take k) (.slice (some ⟨b,o,none⟩) k cap) K _ hvw (fun b hb=>Nat.lt_of_lt_of_le (hK b hb) BL1.out.size) (by rw[List.length_take];omega) (q1s wr.heap.size a.n (l.take k) _ (Blk.lt PB.out) (Blk.cell PB.out 0));rw[show (l.take k).any (fun x=>x.n == a.n)=hh from hhe] at hcf;have HCF:=Lib.hid hcf;have hkc:(k:Int)≤cap:=by omega
     have hk0:(0:Int)≤k:=by omega
     clear hnm hin HC HA hal hvw hcf hhe
     cases hh with
     | true =>
      go_wp2_with fail;refine(HN.out _).mono ?_;rintro e w2 ⟨rfl,rfl⟩;go_wp2_with fail;refine HCF.out.mono ?_;rintro e w3 ⟨rfl,hb3⟩;have BL3:=Lib.hid (BL1.out.trans (hb3.mono BL1.out.size));clear hb3 HCF;go_wp2_with fail;go_ret;exact⟨by rw[HD.out];rfl,BL3.out⟩
     | false =>
      go_wp2_with fail;refine(HN.out _).mono ?_;rintro e w2 ⟨rfl,rfl⟩;go_wp2_with fail;refine HCF.out.mono ?_;rintro e w3 ⟨rfl,hb3⟩;have BL3:=Lib.hid (BL1.out.trans (hb3.mono BL1.out.size));clear hb3 HCF;go_wp2_with fail;go_roundw
      case rel=>exact⟨k + 1,by omega,by go_num,by show _=_;rw[HD.out];rfl,BL3⟩
      case measure=>simp[intOf];omega
   ·have hke:k=l.length:=by omega
    have HE:Hid (Mk.Q9 Fd.z03 [] l=0):=by show _=_;rw[HA.out,List.drop_of_length_le (by omega)];rfl
    clear HA HC;go_wp2_with fail;go_ret;exact⟨by rw[HE.out];rfl,BL.out⟩
 ·subst hl0
  subst hv1;clear HC hK;go_enter Tryz.func168,Tryz.ntmps168;go_wp2_with fail
  go_loopw [9] (fun i wr=>i=.int .i64 0∧wr=w) (fun _ _=>0)
  case atStart=>exact⟨rfl,rfl⟩
  case round =>
   obtain⟨rfl,rfl⟩:=hrel;go_wp2_with fail;go_ret;exact⟨rfl,Below.refl _ _⟩
theorem j1f (s:List UInt8) (w:World) (hs:s.length≤1048576) (hg:Gl w) :
  Calls Tryz.prog 253 #[.string (st s)] w fun e w'=>Below w.heap.size w w'∧(((Mk.take s).2=true∧e=.returned (.string (st (Mk.take s).1)))∨((Mk.take s).2=false∧e=GaveX 1)):=by
 have HT:=Lib.hid (q2h (st s) w (by rw[y9];exact hs) hg);rw[z0y] at HT;generalize hp:Mk.take s=p at HT ⊢;obtain⟨t,ok⟩:=p;clear hp
 cases ok with
 | true =>
  go_enter Tryz.func253,Tryz.ntmps253;go_wp2_with fail;refine HT.out.mono ?_;rintro e w1 ⟨rfl,hb⟩;go_wp2_with fail;go_ret;exact⟨hb,.inl ⟨(by first | rfl | trivial),(by first | rfl | trivial)⟩⟩
 | false =>
  go_enter Tryz.func253,Tryz.ntmps253;go_wp2_with fail;refine HT.out.mono ?_;rintro e w1 ⟨rfl,hb⟩;go_wp2_with fail;refine(z3z 1 _).mono ?_;rintro e w2 ⟨rfl,hw2⟩;subst w2;go_wp2_with fail;exact⟨rfl,hb,.inr ⟨(by first | rfl | trivial),(by first | rfl | trivial)⟩⟩
theorem skip_at (s:ByteArray) (k:Nat) (hk:k≤s.size):∃ j,k≤j∧j≤s.size∧s.data.toList.drop j=Fd.X4 (s.data.toList.drop k):=by
 have h:=List.dropWhile_suffix Fd.z2v (l:=s.data.toList.drop k);obtain⟨p,hp⟩:=h;refine⟨k + p.length,by omega,?_,?_⟩
 ·have:=congrArg List.length hp
  rw[List.length_append,List.length_drop,bs_len] at this;omega
 ·rw[← List.drop_drop];show _=List.dropWhile Fd.z2v _;conv=>lhs;rw[← hp]
  exact List.drop_left
section
variable {w : World} {R : Nat} {s : ByteArray} {k j : Nat}
theorem drop_inj {s:ByteArray} {a b:Nat} (ha:a≤s.size) (hb:b≤s.size) (h:s.data.toList.drop a=s.data.toList.drop b):a=b:=by
 have:=congrArg List.length h;rw[List.length_drop,List.length_drop,bs_len] at this;omega
theorem j6u (h:Xr w R s k) (hk:k≤s.size) (hs:s.size≤1048576) (hj:j≤s.size) (hd:s.data.toList.drop j=Fd.X4 (s.data.toList.drop k)) :
  Calls Tryz.prog 211 #[.pointer (some ⟨R,0,none⟩)] w fun e w'=>e=.returned (.int .i64 ((j:Int) - k))∧Xr w' R s j∧Moved R w w':=by
 refine(q1o h hk hs).mono ?_;rintro e w1 ⟨j',h1,h2,h3,h4,h5,h6⟩;have e:j'=j:=drop_inj h2 hj (h4.trans hd.symm);subst e;exact⟨h3,h5,h6⟩
end
end Go.Proofs.YtjonkbdldebkiaaGreatDoor
namespace Fd
open Mk
theorem q1r:∀ (f g:Fo),Fo.bulk (f.app g)=Fo.bulk f + Fo.bulk g
 | .nil,g=>by show Fo.bulk g=0 + Fo.bulk g;omega
 | .node n a t k r,g=>by
  have:=q1r r g;show 1 + n.length + t.length + Fo.atB a + Fo.bulk k + Fo.bulk (r.app g)=1 + n.length + t.length + Fo.atB a + Fo.bulk k + Fo.bulk r + Fo.bulk g;omega
theorem y0j (f:Bool) (s:Bs):(z6j f s).length≤s.length:=by
 induction s generalizing f with
 | nil=>exact Nat.le_refl _
 | cons c t ih =>
  unfold z6j
  split
  ·have:=ih false;simp;omega
  ·exact Nat.zero_le _
theorem q3b {s n r:Bs} (h:V8 s=.ok n r):n.length + r.length=s.length∧n.length≤20∧z03 n=true:=by
 unfold V8 at h
 split at h
 ·rename_i hi
  injection h with h1 h2;have:=y0j true s;have hh:=hi;unfold z03 at hh;rw[Bool.and_eq_true,decide_eq_true_iff] at hh;rw[← h1,← h2,List.length_drop];exact⟨by omega,hh.2,hi⟩
 ·cases h
theorem j1d {s v r:Bs} (h:z3h s=.ok v r):v.length + 5 * r.length + 5≤5 * s.length:=by
 unfold z3h at h;simp only at h;generalize (if Mg.pre [39] s=true then (39:UInt8) else 34)=q at h
 cases hn:z0b [q] s with
 | er e=>rw[hn] at h;cases h
 | ok u r1 =>
  rw[hn] at h;simp only at h;have h1:=z18 hn
  cases ht:toX [q] r1 with
  | er e=>rw[ht] at h;cases h
  | ok v1 r2 =>
   rw[ht] at h;simp only at h;have h2:=q0v (by simp) ht;simp only [List.length_cons,List.length_nil] at h1 h2
   split at h
   ·cases h
   split at h
   ·injection h with h3 h4
    have:=take_len v1;rw[← h4,← h3];omega
   ·cases h
theorem q3t {s r:Bs} {a:At} (h:z4l s=.ok a r):1 + a.n.length + a.v.length + 5 * r.length≤5 * s.length:=by
 unfold z4l at h
 cases h1:V8 s with
 | er e=>rw[h1] at h;cases h
 | ok n r1 =>
  rw[h1] at h;simp only at h;have l1:=(q3b h1).1
  cases h2:z0b [61] (X4 r1) with
  | er e=>rw[h2] at h;cases h
  | ok u r2 =>
   rw[h2] at h;simp only at h;have l2:=z18 h2;have l3:=q0b r1;simp only [List.length_cons,List.length_nil] at l2
   cases h3:z3h (X4 r2) with
   | er e=>rw[h3] at h;cases h
   | ok v z =>
    rw[h3] at h;injection h with h4 h5;have l4:=j1d h3;have l5:=q0b r2;rw[← h5,← h4];show 1 + n.length + v.length + _≤_;omega
theorem q0i:∀ (n:Nat) (s:Bs) (out l:List At) (r:Bs),z06 n s out=.ok l r→Fo.atB l + 5 * r.length≤Fo.atB out + 5 * s.length
 | 0,s,out,l,r,h=>by rw[z06] at h;injection h with h1 h2;rw[← h2,← h1];exact Nat.le_refl _
 | n + 1,s,out,l,r,h=>by
  rw[z06] at h
  split at h
  ·rename_i hl
   cases hs:X4 s with
   | nil=>rw[hs] at h;injection h with h1 h2;rw[← h2,← h1];simp
   | cons c t =>
    rw[hs] at h hl;simp only at h
    split at h
    ·cases ha:z4l (c :: t) with
     | er e=>rw[ha] at h;cases h
     | ok a r1 =>
      rw[ha] at h;simp only at h;have l1:=q3t ha
      split at h
      ·cases h
      ·have:=q0i n r1 _ l r h
       rw[q5b] at this;omega
    ·injection h with h1 h2;rw[← h2,← h1];omega
  ·injection h with h1 h2;rw[← h2,← h1];exact Nat.le_refl _
theorem z7s (f:Fo) (t:Bs):Fo.bulk (q0f f t)≤Fo.bulk f + (1 + t.length):=by
 unfold q0f
 split
 ·omega
 ·have:=Fo.z5e f [] [] t .nil
  have h0:Fo.atB ([]:List At)=0:=rfl;have h1:Fo.bulk .nil=0:=rfl;rw[h0,h1] at this;simp only [List.length_nil] at this;omega
mutual
theorem q49:∀ (n:Nat) (deep:Int) (s:Bs) (x:El) (r:Bs),z4a n deep s=.ok x r→1 + x.name.length + Fo.atB x.ats + Fo.bulk x.kids + 5 * r.length≤5 * s.length
 | 0,deep,s,x,r,h=>by rw[z4a] at h;cases h
 | n + 1,deep,s,x,r,h=>by
  rw[z4a] at h
  cases h1:z0b [60] s with
  | er e=>rw[h1] at h;cases h
  | ok u1 r1 =>
  rw[h1] at h;simp only at h;have l1:=z18 h1;simp only [List.length_cons,List.length_nil] at l1
  cases h2:V8 r1 with
  | er e=>rw[h2] at h;cases h
  | ok nm r2 =>
  rw[h2] at h;simp only at h;have l2:=(q3b h2).1
  split at h
  ·cases h
  cases h3:z2a r2 with
  | er e=>rw[h3] at h;cases h
  | ok l r3 =>
  rw[h3] at h;simp only at h;have l3:=q0i _ _ _ _ _ h3;have h0:Fo.atB ([]:List At)=0:=rfl;rw[h0] at l3;have hn0:Fo.bulk .nil=0:=rfl
  split at h
  ·injection h with hx hr;rw[← hr,← hx,List.length_drop];simp only [hn0];omega
  cases h4:z0b [62] r3 with
  | er e=>rw[h4] at h;cases h
  | ok u4 r4 =>
  rw[h4] at h;simp only at h;have l4:=z18 h4;simp only [List.length_cons,List.length_nil] at l4
  cases h5:z1h n deep r4 .nil with
  | er e=>rw[h5] at h;cases h
  | ok k r5 =>
  rw[h5] at h;simp only at h;have l5:=z4y n deep r4 .nil k r5 h5;rw[hn0] at l5
  cases h6:V8 r5 with
  | er e=>rw[h6] at h;cases h
  | ok nm2 r6 =>
  rw[h6] at h;simp only at h;have l6:=z5i h6
  split at h
  ·cases h
  cases h7:z0b [62] (X4 r6) with
  | er e=>rw[h7] at h;cases h
  | ok u7 r7 =>
  rw[h7] at h;injection h with hx hr;have l7:=z18 h7;have l8:=q0b r6;simp only [List.length_cons,List.length_nil] at l7;rw[← hr,← hx];show 1 + nm.length + Fo.atB l + Fo.bulk k + _≤_;omega
theorem z4y:∀ (n:Nat) (deep:Int) (s:Bs) (out k:Fo) (r:Bs),z1h n deep s out=.ok k r→Fo.bulk k + 5 * r.length≤Fo.bulk out + 5 * s.length
 | 0,deep,s,out,k,r,h=>by rw[z1h] at h;cases h
 | n + 1,deep,s,out,k,r,h=>by
  rw[z1h] at h
  split at h
  ·rename_i hp
   have:=z15 hp;injection h with hk hr;simp only [List.length_cons,List.length_nil] at this;rw[← hr,← hk,List.length_drop];omega
  split at h
  ·rename_i hp
   have:=z15 hp;simp only [List.length_cons,List.length_nil] at this
   cases h1:toX [93,93,62] (s.drop 9) with
   | er e=>rw[h1] at h;cases h
   | ok t1 r1 =>
    rw[h1] at h;simp only at h;have l1:=q0v (by simp) h1;rw[List.length_drop] at l1;have:=z4y n deep r1 _ k r h;have:=z7s out t1;omega
  cases ha:z16 s with
  | some x =>
   rw[ha] at h
   cases x with
   | er e=>cases h
   | ok u r1 =>
    simp only at h;have:=z3o ha;have:=z4y n deep r1 _ k r h;omega
  | none =>
   rw[ha] at h;simp only at h
   split at h
   ·cases he:z4a n (deep + 1) s with
    | er e=>rw[he] at h;cases h
    | ok x r1 =>
     rw[he] at h;simp only at h;have l1:=q49 n (deep + 1) s x r1 he;have l2:=z4y n deep r1 _ k r h;rw[q1r] at l2;have h0:Fo.bulk (.node x.name x.ats [] x.kids .nil)=1 + x.name.length + 0 + Fo.atB x.ats + Fo.bulk x.kids + 0:=rfl;omega
   ·rename_i hno
    cases hz:z05 [60] s with
    | none=>rw[hz] at h;cases h
    | some y =>
     rw[hz] at h;simp only at h
     split at h
     ·have l2:=z4y n deep _ _ k r h
      rw[List.length_drop] at l2;have hy:=z5n [60] (by simp) s y hz;simp only [List.length_cons,List.length_nil] at hy;have h0:=List.length_pos_iff.2 (q5a (by simpa using hno) hz);have l3:=z7s out (take y.1).1;have l4:=take_len y.1;omega
     ·cases h
end
end Fd
