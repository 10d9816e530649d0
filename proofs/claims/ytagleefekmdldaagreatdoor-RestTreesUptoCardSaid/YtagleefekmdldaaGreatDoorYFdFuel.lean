/- The plain law of strict trees: how much is left; more fuel changes nothing. No program in sight. -/
import Derived.Test.YtagleefekmdldaaGreatDoorYFdDate
import Derived.Test.YtagleefekmdldaaGreatDoorYMkTree2
import Derived.Test.YtagleefekmdldaaGreatDoorYMkHtml
set_option linter.unusedVariables false
set_option linter.unusedSimpArgs false
set_option maxHeartbeats 8000000
set_option maxRecDepth 100000
namespace Fd
open Mk
theorem z8x (s:Bs):(V9 s).length≤s.length:=by
 unfold V9;exact(List.dropWhile_suffix _).length_le
theorem z4i {s n r:Bs} (h:X5 s=.ok n r):r.length≤s.length:=by
 unfold X5 at h
 split at h
 ·injection h with _ h2
  rw[← h2];simp
 ·cases h
theorem z0t {p s:Bs} (h:Mg.pre p s=true):p.length≤s.length:=by
 by_cases hl:s.length < p.length
 ·rw[Mg.q1p p s hl] at h;cases h
 ·omega
theorem z0v {p s r:Bs} {u:Unit} (h:z05 p s=.ok u r):r.length + p.length=s.length:=by
 unfold z05 at h
 split at h
 ·rename_i hp
  have:=z0t hp;injection h with _ h2;rw[← h2,List.length_drop];omega
 ·cases h
theorem z4m (p:Bs) (hp:p ≠ []):∀ (s:Bs) (x:Bs × Bs),z00 p s=some x→x.2.length + x.1.length + p.length=s.length
 | [],x,h=>by rw[z00] at h;cases h
 | c :: t,x,h=>by
  rw[z00] at h
  split at h
  ·rename_i hq
   have:=z0t hq;injection h with h;rw[← h];show ((c :: t).drop p.length).length + ([]:Bs).length + p.length=_;rw[List.length_drop];simp only [List.length_cons,List.length_nil] at this ⊢;omega
  ·cases he:z00 p t with
   | none=>rw[he] at h;cases h
   | some y =>
    rw[he] at h;injection h with h;have:=z4m p hp t y he;rw[← h];simp only [List.length_cons];omega
theorem z9l {p s v r:Bs} (hp:p ≠ []) (h:toX p s=.ok v r):r.length + v.length + p.length=s.length:=by
 unfold toX at h
 cases he:z00 p s with
 | none=>rw[he] at h;cases h
 | some x =>
  rw[he] at h;injection h with h1 h2;have:=z4m p hp s x he;rw[← h1,← h2];exact this
theorem z3y {s r:Bs} {u:Unit} (h:z0x s=some (.ok u r)):r.length < s.length:=by
 unfold z0x at h
 split at h
 ·rename_i hp
  have:=z0t hp
  cases he:z00 [45,45,62] (s.drop 4) with
  | none=>rw[he] at h;cases h
  | some x =>
   rw[he] at h;injection h with h;injection h with _ h2;have hh:=z4m [45,45,62] (by simp) _ x he;rw[List.length_drop] at hh;rw[← h2];simp only [List.length_cons,List.length_nil] at this hh ⊢;omega
 split at h
 ·rename_i hp
  have:=z0t hp
  cases he:z00 [63,62] (s.drop 2) with
  | none=>rw[he] at h;cases h
  | some x =>
   rw[he] at h;injection h with h;injection h with _ h2;have hh:=z4m [63,62] (by simp) _ x he;rw[List.length_drop] at hh;rw[← h2];simp only [List.length_cons,List.length_nil] at this hh ⊢;omega
 ·cases h
theorem j6y {s v r:Bs} (h:z2s s=.ok v r):r.length < s.length:=by
 unfold z2s at h;simp only at h;generalize (if Mg.pre [39] s=true then (39:UInt8) else 34)=q at h
 cases hn:z05 [q] s with
 | er e=>rw[hn] at h;cases h
 | ok u r1 =>
  rw[hn] at h;simp only at h;have h1:=z0v hn
  cases ht:toX [q] r1 with
  | er e=>rw[ht] at h;cases h
  | ok v1 r2 =>
   rw[ht] at h;simp only at h;have h2:=z9l (by simp) ht;simp only [List.length_cons,List.length_nil] at h1 h2
   split at h
   ·cases h
   split at h
   ·injection h with _ h4
    rw[← h4];omega
   ·cases h
theorem q3w {s r:Bs} {a:At} (h:z3p s=.ok a r):r.length < s.length:=by
 unfold z3p at h
 cases h1:X5 s with
 | er e=>rw[h1] at h;cases h
 | ok n r1 =>
  rw[h1] at h;simp only at h;have l1:=z4i h1
  cases h2:z05 [61] (V9 r1) with
  | er e=>rw[h2] at h;cases h
  | ok u r2 =>
   rw[h2] at h;simp only at h;have l2:=z0v h2;have l3:=z8x r1;simp only [List.length_cons,List.length_nil] at l2
   cases h3:z2s (V9 r2) with
   | er e=>rw[h3] at h;cases h
   | ok v z =>
    rw[h3] at h;injection h with _ h5;have l4:=j6y h3;have l5:=z8x r2;rw[← h5];omega
theorem q5e:∀ (n:Nat) (s:Bs) (out l:List At) (r:Bs),z01 n s out=.ok l r→r.length≤s.length
 | 0,s,out,l,r,h=>by rw[z01] at h;injection h with _ h2;rw[← h2];exact Nat.le_refl _
 | n + 1,s,out,l,r,h=>by
  rw[z01] at h
  split at h
  ·rename_i hl
   cases hs:V9 s with
   | nil=>rw[hs] at h;injection h with _ h2;rw[← h2];exact Nat.zero_le _
   | cons c t =>
    rw[hs] at h hl;simp only at h
    split at h
    ·cases ha:z3p (c :: t) with
     | er e=>rw[ha] at h;cases h
     | ok a r1 =>
      rw[ha] at h;simp only at h;have l1:=q3w ha
      split at h
      ·cases h
      ·have:=q5e n r1 _ l r h
       omega
    ·injection h with _ h2;rw[← h2];omega
  ·injection h with _ h2;rw[← h2];exact Nat.le_refl _
theorem q0m {s r:Bs} {l:List At} (h:z1u s=.ok l r):r.length≤s.length:=q5e _ _ _ _ _ h
theorem z4n:∀ (n m:Nat) (s:Bs) (out:List At),s.length < n→s.length < m→z01 n s out=z01 m s out
 | 0,m,s,out,h,_=>by omega
 | n + 1,0,s,out,_,h=>by omega
 | n + 1,m + 1,s,out,h1,h2=>by
  rw[z01,z01]
  by_cases hl:(V9 s).length < s.length
  ·rw[if_pos hl,if_pos hl]
   cases hs:V9 s with
   | nil=>rfl
   | cons c t =>
    rw[hs] at hl;simp only
    split
    ·cases ha:z3p (c :: t) with
     | er e=>rfl
     | ok a r1 =>
      simp only;have l1:=q3w ha
      split
      ·rfl
      ·exact z4n n m r1 _ (by omega) (by omega)
    ·rfl
  ·rw[if_neg hl,if_neg hl]
theorem z6i:∀ (n m:Nat) (s:Bs),s.length < n→s.length < m→z7e n s=z7e m s
 | 0,m,s,h,_=>by omega
 | n + 1,0,s,_,h=>by omega
 | n + 1,m + 1,s,h1,h2=>by
  rw[z7e,z7e]
  split
  ·exact z6i n m _ (by omega) (by omega)
  ·cases ha:z0x s with
   | none=>rfl
   | some x =>
    cases x with
    | er e=>rfl
    | ok u r=>have:=z3y ha;exact z6i n m r (by omega) (by omega)
mutual
theorem q44:∀ (n:Nat) (deep:Int) (s:Bs) (x:El) (r:Bs),z3h n deep s=.ok x r→r.length < s.length
 | 0,deep,s,x,r,h=>by rw[z3h] at h;cases h
 | n + 1,deep,s,x,r,h=>by
  rw[z3h] at h
  cases h1:z05 [60] s with
  | er e=>rw[h1] at h;cases h
  | ok u1 r1 =>
  rw[h1] at h;simp only at h;have l1:=z0v h1;simp only [List.length_cons,List.length_nil] at l1
  cases h2:X5 r1 with
  | er e=>rw[h2] at h;cases h
  | ok nm r2 =>
  rw[h2] at h;simp only at h;have l2:=z4i h2
  split at h
  ·cases h
  cases h3:z1u r2 with
  | er e=>rw[h3] at h;cases h
  | ok l r3 =>
  rw[h3] at h;simp only at h;have l3:=q0m h3
  split at h
  ·injection h with _ hr;rw[← hr,List.length_drop];omega
  cases h4:z05 [62] r3 with
  | er e=>rw[h4] at h;cases h
  | ok u4 r4 =>
  rw[h4] at h;simp only at h;have l4:=z0v h4;simp only [List.length_cons,List.length_nil] at l4
  cases h5:z1e n deep r4 .nil with
  | er e=>rw[h5] at h;cases h
  | ok k r5 =>
  rw[h5] at h;simp only at h;have l5:=z7w n deep r4 .nil k r5 h5
  cases h6:X5 r5 with
  | er e=>rw[h6] at h;cases h
  | ok nm2 r6 =>
  rw[h6] at h;simp only at h;have l6:=z4i h6
  split at h
  ·cases h
  cases h7:z05 [62] (V9 r6) with
  | er e=>rw[h7] at h;cases h
  | ok u7 r7 =>
  rw[h7] at h;injection h with _ hr;have l7:=z0v h7;have l8:=z8x r6;simp only [List.length_cons,List.length_nil] at l7;rw[← hr];omega
theorem z7w:∀ (n:Nat) (deep:Int) (s:Bs) (out k:Fo) (r:Bs),z1e n deep s out=.ok k r→r.length < s.length
 | 0,deep,s,out,k,r,h=>by rw[z1e] at h;cases h
 | n + 1,deep,s,out,k,r,h=>by
  rw[z1e] at h
  split at h
  ·rename_i hp
   have:=z0t hp;injection h with _ hr;simp only [List.length_cons,List.length_nil] at this;rw[← hr,List.length_drop];omega
  split at h
  ·rename_i hp
   have:=z0t hp;simp only [List.length_cons,List.length_nil] at this
   cases h1:toX [93,93,62] (s.drop 9) with
   | er e=>rw[h1] at h;cases h
   | ok t1 r1 =>
    rw[h1] at h;simp only at h;have l1:=z9l (by simp) h1;rw[List.length_drop] at l1;have:=z7w n deep r1 _ k r h;omega
  cases ha:z0x s with
  | some x =>
   rw[ha] at h
   cases x with
   | er e=>cases h
   | ok u r1 =>
    simp only at h;have:=z3y ha;have:=z7w n deep r1 _ k r h;omega
  | none =>
   rw[ha] at h;simp only at h
   split at h
   ·cases he:z3h n (deep + 1) s with
    | er e=>rw[he] at h;cases h
    | ok x r1 =>
     rw[he] at h;simp only at h;have:=q44 n (deep + 1) s x r1 he;have:=z7w n deep r1 _ k r h;omega
   ·cases hz:z00 [60] s with
    | none=>rw[hz] at h;cases h
    | some y =>
     rw[hz] at h;simp only at h
     split at h
     ·have:=z7w n deep _ _ k r h
      rw[List.length_drop] at this;omega
     ·cases h
end
mutual
theorem q2w:∀ (n m:Nat) (deep:Int) (s:Bs),s.length≤n→s.length≤m→z3h n deep s=z3h m deep s
 | 0,0,deep,s,_,_=>rfl
 | 0,m + 1,deep,s,h,_=>by
  have:s=[]:=List.eq_nil_of_length_eq_zero (by omega);rw[this,z3h,z3h];rfl
 | n + 1,0,deep,s,_,h=>by
  have:s=[]:=List.eq_nil_of_length_eq_zero (by omega);rw[this,z3h,z3h];rfl
 | n + 1,m + 1,deep,s,g1,g2=>by
  rw[z3h,z3h]
  cases h1:z05 [60] s with
  | er e=>rfl
  | ok u1 r1 =>
  simp only;have l1:=z0v h1;simp only [List.length_cons,List.length_nil] at l1
  cases h2:X5 r1 with
  | er e=>rfl
  | ok nm r2 =>
  simp only;have l2:=z4i h2
  split
  ·rfl
  cases h3:z1u r2 with
  | er e=>rfl
  | ok l r3 =>
  simp only;have l3:=q0m h3
  split
  ·rfl
  cases h4:z05 [62] r3 with
  | er e=>rfl
  | ok u4 r4 =>
  simp only;have l4:=z0v h4;simp only [List.length_cons,List.length_nil] at l4;rw[z2y n m deep r4 .nil (by omega) (by omega)]
theorem z2y:∀ (n m:Nat) (deep:Int) (s:Bs) (out:Fo),s.length < n→s.length < m→z1e n deep s out=z1e m deep s out
 | 0,m,deep,s,out,h,_=>by omega
 | n + 1,0,deep,s,out,_,h=>by omega
 | n + 1,m + 1,deep,s,out,g1,g2=>by
  rw[z1e,z1e]
  split
  ·rfl
  split
  ·rename_i hp
   have:=z0t hp;simp only [List.length_cons,List.length_nil] at this
   cases h1:toX [93,93,62] (s.drop 9) with
   | er e=>rfl
   | ok t1 r1 =>
    simp only;have l1:=z9l (by simp) h1;rw[List.length_drop] at l1;exact z2y n m deep r1 _ (by omega) (by omega)
  cases ha:z0x s with
  | some x =>
   cases x with
   | er e=>rfl
   | ok u r1 =>
    simp only;have:=z3y ha;exact z2y n m deep r1 _ (by omega) (by omega)
  | none =>
   simp only
   split
   ·rw[q2w n m (deep + 1) s (by omega) (by omega)]
    cases he:z3h m (deep + 1) s with
    | er e=>rfl
    | ok x r1 =>
     simp only;have:=q44 m (deep + 1) s x r1 he;exact z2y n m deep r1 _ (by omega) (by omega)
   ·rename_i hp
    cases hz:z00 [60] s with
    | none=>rfl
    | some y =>
     simp only;have hy:=z4m [60] (by simp) s y hz
     split
     ·have h0:y.1 ≠ []:=by
       intro h0
       cases s with
       | nil=>rw[z00] at hz;cases hz
       | cons c t =>
        rw[z00,if_neg hp] at hz
        cases he:z00 [60] t with
        | none=>rw[he] at hz;cases hz
        | some z=>rw[he] at hz;injection hz with hz;rw[← hz] at h0;cases h0
      have:0 < y.1.length:=List.length_pos_iff.2 h0;simp only [List.length_cons,List.length_nil] at hy;exact z2y n m deep _ _ (by rw[List.length_drop];omega) (by rw[List.length_drop];omega)
     ·rfl
end
def z5l (deep:Int) (s:Bs):Rs El:=z3h s.length deep s
def z0g (deep:Int) (s:Bs) (out:Fo):Rs Fo:=z1e (s.length + 1) deep s out
theorem z7r {n:Nat} {deep:Int} {s:Bs} (h:s.length≤n):z3h n deep s=z5l deep s:=q2w _ _ _ _ h (Nat.le_refl _)
theorem z5s {n:Nat} {deep:Int} {s:Bs} {out:Fo} (h:s.length < n):z1e n deep s out=z0g deep s out:=z2y _ _ _ _ _ h (Nat.lt_succ_self _)
def z1o:Bs:=[60,33,91,67,68,65,84,65,91]
theorem q7w {deep:Int} {s:Bs} {out:Fo} (h:Mg.pre [60,47] s=true):z0g deep s out=.ok out (s.drop 2):=by
 unfold z0g;rw[z1e,if_pos h]
theorem q4c {deep:Int} {s:Bs} {out:Fo} {e:Int} (h:Mg.pre [60,47] s=false) (h2:Mg.pre z1o s=true) (h3:toX [93,93,62] (s.drop 9)=.er e):z0g deep s out=.er e:=by
 unfold z0g;rw[z1e,if_neg (by rw[h];simp),if_pos (show Mg.pre [60,33,91,67,68,65,84,65,91] s=true from h2),h3]
theorem j1p {deep:Int} {s t r:Bs} {out:Fo} (h:Mg.pre [60,47] s=false) (h2:Mg.pre z1o s=true) (h3:toX [93,93,62] (s.drop 9)=.ok t r):z0g deep s out=z0g deep r (z90 out t):=by
 have l1:=z9l (by simp) h3;have l2:=z0t h2;unfold z1o at l2;simp only [List.length_drop,List.length_cons,List.length_nil] at l1 l2;show z1e (s.length + 1) deep s out=_;rw[z1e,if_neg (by rw[h];simp),if_pos (show Mg.pre [60,33,91,67,68,65,84,65,91] s=true from h2),h3];exact z5s (by omega)
theorem q2b {deep:Int} {s:Bs} {out:Fo} {e:Int} (h:Mg.pre [60,47] s=false) (h2:Mg.pre z1o s=false) (h3:z0x s=some (.er e)):z0g deep s out=.er e:=by
 have h2':¬ Mg.pre [60,33,91,67,68,65,84,65,91] s=true:=by intro q;rw[show Mg.pre z1o s=true from q] at h2;cases h2
 unfold z0g;rw[z1e,if_neg (by rw[h];simp),if_neg h2',h3]
theorem q7v {deep:Int} {s r:Bs} {u:Unit} {out:Fo} (h:Mg.pre [60,47] s=false) (h2:Mg.pre z1o s=false) (h3:z0x s=some (.ok u r)):z0g deep s out=z0g deep r out:=by
 have h2':¬ Mg.pre [60,33,91,67,68,65,84,65,91] s=true:=by intro q;rw[show Mg.pre z1o s=true from q] at h2;cases h2
 have l1:=z3y h3;show z1e (s.length + 1) deep s out=_;rw[z1e,if_neg (by rw[h];simp),if_neg h2',h3];exact z5s (by omega)
theorem q4d {deep:Int} {s:Bs} {out:Fo} {e:Int} (h:Mg.pre [60,47] s=false) (h2:Mg.pre z1o s=false) (h3:z0x s=none) (h4:Mg.pre [60] s=true) (h5:z5l (deep + 1) s=.er e):z0g deep s out=.er e:=by
 have h2':¬ Mg.pre [60,33,91,67,68,65,84,65,91] s=true:=by intro q;rw[show Mg.pre z1o s=true from q] at h2;cases h2
 unfold z0g;rw[z1e,if_neg (by rw[h];simp),if_neg h2',h3];simp only;rw[if_pos h4,z7r (Nat.le_refl _),h5]
theorem j1q {deep:Int} {s r:Bs} {x:El} {out:Fo} (h:Mg.pre [60,47] s=false) (h2:Mg.pre z1o s=false) (h3:z0x s=none) (h4:Mg.pre [60] s=true) (h5:z5l (deep + 1) s=.ok x r):z0g deep s out=z0g deep r (out.app (.node x.name x.ats [] x.kids .nil)):=by
 have h2':¬ Mg.pre [60,33,91,67,68,65,84,65,91] s=true:=by intro q;rw[show Mg.pre z1o s=true from q] at h2;cases h2
 have l1:=q44 _ _ _ _ _ h5;show z1e (s.length + 1) deep s out=_;rw[z1e,if_neg (by rw[h];simp),if_neg h2',h3];simp only;rw[if_pos h4,z7r (Nat.le_refl _),h5];exact z5s (by omega)
theorem q4f {deep:Int} {s:Bs} {out:Fo} (h:Mg.pre [60,47] s=false) (h2:Mg.pre z1o s=false) (h3:z0x s=none) (h4:Mg.pre [60] s=false) (h5:z00 [60] s=none):z0g deep s out=.er 1:=by
 have h2':¬ Mg.pre [60,33,91,67,68,65,84,65,91] s=true:=by intro q;rw[show Mg.pre z1o s=true from q] at h2;cases h2
 unfold z0g;rw[z1e,if_neg (by rw[h];simp),if_neg h2',h3];simp only;rw[if_neg (by rw[h4];simp),h5]
theorem q4e {deep:Int} {s:Bs} {out:Fo} {y:Bs × Bs} (h:Mg.pre [60,47] s=false) (h2:Mg.pre z1o s=false) (h3:z0x s=none) (h4:Mg.pre [60] s=false) (h5:z00 [60] s=some y) (h6:(Mk.take y.1).2=false):z0g deep s out=.er 1:=by
 have h2':¬ Mg.pre [60,33,91,67,68,65,84,65,91] s=true:=by intro q;rw[show Mg.pre z1o s=true from q] at h2;cases h2
 unfold z0g;rw[z1e,if_neg (by rw[h];simp),if_neg h2',h3];simp only;rw[if_neg (by rw[h4];simp),h5];simp only;rw[if_neg (by rw[h6];simp)]
theorem q3u {s:Bs} {y:Bs × Bs} (hp:Mg.pre [60] s=false) (hz:z00 [60] s=some y):y.1 ≠ []:=by
 intro h0
 cases s with
 | nil=>rw[z00] at hz;cases hz
 | cons c t =>
  rw[z00,if_neg (by rw[hp];simp)] at hz
  cases he:z00 [60] t with
  | none=>rw[he] at hz;cases hz
  | some z=>rw[he] at hz;injection hz with hz;rw[← hz] at h0;cases h0
theorem j1r {deep:Int} {s:Bs} {out:Fo} {y:Bs × Bs} (h:Mg.pre [60,47] s=false) (h2:Mg.pre z1o s=false) (h3:z0x s=none) (h4:Mg.pre [60] s=false) (h5:z00 [60] s=some y) (h6:(Mk.take y.1).2=true):z0g deep s out=z0g deep (s.drop y.1.length) (z90 out (Mk.take y.1).1):=by
 have h2':¬ Mg.pre [60,33,91,67,68,65,84,65,91] s=true:=by intro q;rw[show Mg.pre z1o s=true from q] at h2;cases h2
 have h0:=List.length_pos_iff.2 (q3u h4 h5);have hy:=z4m [60] (by simp) s y h5;simp only [List.length_cons,List.length_nil] at hy;show z1e (s.length + 1) deep s out=_;rw[z1e,if_neg (by rw[h];simp),if_neg h2',h3];simp only;rw[if_neg (by rw[h4];simp),h5];simp only;rw[if_pos h6];exact z5s (by rw[List.length_drop];omega)
theorem q02 (deep:Int) (s:Bs):z5l deep s =
  match z05 [60] s with
  | .er e=>.er e
  | .ok _ r =>
   match X5 r with
   | .er e=>.er e
   | .ok nm u =>
    if 8 < deep then .er 2
    else match z1u u with
     | .er e=>.er e
     | .ok l z =>
      if Mg.pre [47,62] z then .ok ⟨nm,l,.nil⟩ (z.drop 2)
      else match z05 [62] z with
       | .er e=>.er e
       | .ok _ y =>
        match z0g deep y .nil with
        | .er e=>.er e
        | .ok k x =>
         match X5 x with
         | .er e=>.er e
         | .ok nm2 v=>if nm2 ≠ nm then .er 4 else
          match z05 [62] (V9 v) with
          | .er e=>.er e
          | .ok _ o=>.ok ⟨nm,l,k⟩ o:=by
 rw[← z7r (Nat.le_succ s.length),z3h]
 cases h1:z05 [60] s with
 | er e=>rfl
 | ok u1 r1 =>
 simp only;have l1:=z0v h1;simp only [List.length_cons,List.length_nil] at l1
 cases h2:X5 r1 with
 | er e=>rfl
 | ok nm r2 =>
 simp only;have l2:=z4i h2
 split
 ·rfl
 cases h3:z1u r2 with
 | er e=>rfl
 | ok l r3 =>
 simp only;have l3:=q0m h3
 split
 ·rfl
 cases h4:z05 [62] r3 with
 | er e=>rfl
 | ok u4 r4 =>
 simp only;have l4:=z0v h4;simp only [List.length_cons,List.length_nil] at l4;rw[z5s (show r4.length < s.length by omega)];rfl
theorem xmlR_eq (s:Bs):xmlR s =
  match z3s s with
  | .er e=>(⟨[],[],.nil⟩,e)
  | .ok _ r =>
   match z5l 1 r with
   | .er e=>(⟨[],[],.nil⟩,e)
   | .ok x u =>
    match z3s u with
    | .er e=>(⟨[],[],.nil⟩,e)
    | .ok _ v=>if v=[] then (x,0) else (⟨[],[],.nil⟩,1):=by
 unfold xmlR
 cases h1:z3s s with
 | er e=>rfl
 | ok u r=>simp only;rw[z7r (Nat.le_succ r.length)];rfl
theorem q81 {s:Bs} (h:(V9 s).length < s.length):z3s s=z3s (V9 s):=by
 show z7e (s.length + 1) s=_;rw[z7e,if_pos h];exact z6i _ _ _ (by omega) (by omega)
theorem j5h {s:Bs} (h:¬ (V9 s).length < s.length) (h2:z0x s=none):z3s s=.ok () s:=by
 show z7e (s.length + 1) s=_;rw[z7e,if_neg h,h2]
theorem miscX_er {s:Bs} {e:Int} (h:¬ (V9 s).length < s.length) (h2:z0x s=some (.er e)):z3s s=.er e:=by
 show z7e (s.length + 1) s=_;rw[z7e,if_neg h,h2]
theorem q80 {s r:Bs} {u:Unit} (h:¬ (V9 s).length < s.length) (h2:z0x s=some (.ok u r)):z3s s=z3s r:=by
 have l1:=z3y h2;show z7e (s.length + 1) s=_;rw[z7e,if_neg h,h2];exact z6i _ _ _ (by omega) (by omega)
def z3k (s:Bs) (out:List At):Rs (List At):=z01 (s.length + 1) s out
theorem j3s {s:Bs} {out:List At} (h:¬ (V9 s).length < s.length):z3k s out=.ok out s:=by
 unfold z3k;rw[z01,if_neg h]
theorem j0k {s:Bs} {out:List At} (h:(V9 s).length < s.length) (h2:V9 s=[]):z3k s out=.ok out []:=by
 unfold z3k;rw[z01,if_pos h,h2]
theorem j0j {s t:Bs} {c:UInt8} {out:List At} (h:(V9 s).length < s.length) (h2:V9 s=c :: t) (h3:z1s true c=false):z3k s out=.ok out (c :: t):=by
 unfold z3k;rw[z01,if_pos h,h2];simp only;rw[if_neg (by rw[h3];simp)]
theorem j3r {s t:Bs} {c:UInt8} {e:Int} {out:List At} (h:(V9 s).length < s.length) (h2:V9 s=c :: t) (h3:z1s true c=true) (h4:z3p (c :: t)=.er e):z3k s out=.er e:=by
 unfold z3k;rw[z01,if_pos h,h2];simp only;rw[if_pos h3,h4]
theorem j0i {s t r:Bs} {c:UInt8} {a:At} {out:List At} (h:(V9 s).length < s.length) (h2:V9 s=c :: t) (h3:z1s true c=true) (h4:z3p (c :: t)=.ok a r) (h5:J3 X0 [] (out++[a]) ≠ 0):z3k s out=.er 6:=by
 unfold z3k;rw[z01,if_pos h,h2];simp only;rw[if_pos h3,h4];simp only;rw[if_pos h5]
theorem q7f {s t r:Bs} {c:UInt8} {a:At} {out:List At} (h:(V9 s).length < s.length) (h2:V9 s=c :: t) (h3:z1s true c=true) (h4:z3p (c :: t)=.ok a r) (h5:J3 X0 [] (out++[a])=0):z3k s out=z3k r (out++[a]):=by
 have l1:=q3w h4;rw[h2] at h;show z01 (s.length + 1) s out=_;rw[z01,if_pos (by rw[h2];exact h),h2];simp only;rw[if_pos h3,h4];simp only;rw[if_neg (by rw[h5];simp)];exact z4n _ _ _ _ (by omega) (by omega)
end Fd
namespace Fd
theorem aside_is (s:Bs):z0x s=if Mg.pre [60,33,45,45] s then some (match z00 [45,45,62] (s.drop 4) with | none=>.er 1 | some x=>.ok () x.2) else if Mg.pre [60,63] s then some (match z00 [63,62] (s.drop 2) with | none=>.er 1 | some x=>.ok () x.2) else none:=rfl
end Fd
namespace Go.Proofs.YtagleefekmdldaaGreatDoor
open Go.Proofs.Tryz Go.RowKit
section
variable {w w' : World} {R : Nat} {s : ByteArray} {k : Nat}
theorem Moved.blk {N:Nat} {T:TypeId} {cs:Array Value} {a b:World} (h:Moved R a b) (hb:Blk a N T cs) (hN:N ≠ R):Blk b N T cs:=(h.block N hN).trans hb
theorem j07 (hg:Gl w) (hR:1 < R) (h:Xr w R s k) (hk:k≤s.size) (hs:s.size≤1048576) :
  Calls prog 97 #[.pointer (some ⟨R,0,none⟩)] w fun e w' =>
   (Fd.z0x (s.data.toList.drop k)=none∧e=.returned (.bool false)∧Xr w' R s k∧Moved R w w')∨(Fd.z0x (s.data.toList.drop k)=some (.er 1)∧e=GaveX 1∧Moved R w w') ∨
   ∃ j,Fd.z0x (s.data.toList.drop k)=some (.ok () (s.data.toList.drop j))∧e=.returned (.bool true)∧k < j∧j≤s.size∧Xr w' R s j∧Moved R w w':=by
 have HA:=Ld (Fd.aside_is (s.data.toList.drop k));rw[List.drop_drop,List.drop_drop] at HA;have HB1:=Ld (z4l [60,33,45,45] h hk hs);have HX:=Ld h;have HG:=Ld hg;clear hg h;generalize Fd.z0x (s.data.toList.drop k)=out at HA ⊢;obtain⟨b1,hb1⟩:∃ b,Mg.pre [60,33,45,45] (s.data.toList.drop k)=b:=⟨_,rfl⟩;rw[hb1] at HB1 HA;have HP1:=Ld hb1;clear hb1;have HROOM:Hid (∀ p:List UInt8,Mg.pre p (s.data.toList.drop k)=true→k + p.length≤s.size):=by
  intro p hp;have h3:=Fd.z0t hp;rw[List.length_drop,bs_len] at h3
  by_cases q:p.length=0
  ·omega
  ·omega
 cases b1 with
 | true =>
  rw[if_pos rfl] at HA;have h4:k + 4≤s.size:=HROOM.out _ HP1.out;go_enter func97,ntmps97;go_wp2_with fail;refine HB1.out.mono ?_;rintro e w1 ⟨rfl,n,hw1⟩;subst hw1;have X1:=HX.out.drewN n;have d1:=X1.c1;have g1:=X1.fz 1;have X2:Hid (Xr ((w.drewN n).setCell ⟨R,1,none⟩ (.int .i64 ((k:Int) + 4))) R s (k + 4)):=by show Xr _ _ _ _;have:=X1.at_ (k + 4);simpa using this
  have MV2:=Ld (((Moved.refl R w).drewN n).setCell 1 (.int .i64 ((k:Int) + 4)));have GL2:=Ld (HG.out.below (MV2.out.below (Lr)) hR);clear X1;go_upto_region 4 with fail;generalize ((w.drewN n).setCell ⟨R,1,none⟩ (.int .i64 ((k:Int) + 4)))=w2 at X2 MV2 GL2 ⊢;have HT:=Ld (xr_to [45,45,62] GL2.out X2.out h4 hs (by decide) (by decide));go_wp2_with fail;refine HT.out.mono ?_;rintro e w3 (⟨ha,rfl,n3,hw3⟩ | ⟨a,j,ha,rfl,hkj,hjs,hx,hm⟩)
  ·subst hw3
   rw[ha] at HA;clear ha;go_wp2_with fail;exact⟨rfl,.inr (.inl ⟨HA.out,rfl,MV2.out.drewN _⟩)⟩
  ·rw[ha] at HA
   have R1:=Ld hx;have R2:=Ld (MV2.out.trans hm);clear ha hx hm;go_wp2_with fail;go_ret;exact .inr (.inr ⟨j,HA.out,by rfl,by omega,hjs,R1.out,R2.out⟩)
 | false =>
  rw[if_neg (by decide)] at HA;go_enter func97,ntmps97;go_wp2_with fail;refine HB1.out.mono ?_;rintro e w1 ⟨rfl,n,hw1⟩;subst hw1;have X1:=Ld (HX.out.drewN n);have HB2:=Ld (z4l [60,63] X1.out hk hs);obtain⟨b2,hb2⟩:∃ b,Mg.pre [60,63] (s.data.toList.drop k)=b:=⟨_,rfl⟩;rw[hb2] at HB2 HA;have HP2:=Ld hb2;clear hb2 HB1;go_wp2_with fail;refine HB2.out.mono ?_;rintro e w1 ⟨rfl,n2,hw1⟩;subst hw1
  cases b2 with
  | true =>
   rw[if_pos rfl] at HA;have h4:k + 2≤s.size:=HROOM.out _ HP2.out;have X1:=HX.out.drewN (n + n2);have d1:=X1.c1;have g1:=X1.fz 1;have X2:Hid (Xr ((w.drewN (n + n2)).setCell ⟨R,1,none⟩ (.int .i64 ((k:Int) + 2))) R s (k + 2)):=by show Xr _ _ _ _;have:=X1.at_ (k + 2);simpa using this
   have MV2:=Ld (((Moved.refl R w).drewN (n + n2)).setCell 1 (.int .i64 ((k:Int) + 2)));have GL2:=Ld (HG.out.below (MV2.out.below (Lr)) hR);clear X1;go_upto_region 7 with fail;generalize ((w.drewN (n + n2)).setCell ⟨R,1,none⟩ (.int .i64 ((k:Int) + 2)))=w2 at X2 MV2 GL2 ⊢;have HT:=Ld (xr_to [63,62] GL2.out X2.out h4 hs (by decide) (by decide));go_wp2_with fail;refine HT.out.mono ?_;rintro e w3 (⟨ha,rfl,n3,hw3⟩ | ⟨a,j,ha,rfl,hkj,hjs,hx,hm⟩)
   ·subst hw3
    rw[ha] at HA;clear ha;go_wp2_with fail;exact⟨rfl,.inr (.inl ⟨HA.out,rfl,MV2.out.drewN _⟩)⟩
   ·rw[ha] at HA
    have R1:=Ld hx;have R2:=Ld (MV2.out.trans hm);clear ha hx hm;go_wp2_with fail;go_ret;exact .inr (.inr ⟨j,HA.out,by rfl,by omega,hjs,R1.out,R2.out⟩)
  | false =>
   rw[if_neg (by decide)] at HA;go_wp2_with fail;go_ret;exact .inl ⟨HA.out,by rfl,HX.out.drewN _,(Moved.refl R w).drewN _⟩
theorem j7c (hg:Gl w) (hR:1 < R) (h:Xr w R s k) (hk:k≤s.size) (hs:s.size≤1048576) :
  Calls prog 63 #[.pointer (some ⟨R,0,none⟩)] w fun e w' =>
   (Fd.z3s (s.data.toList.drop k)=.er 1∧e=GaveX 1∧Moved R w w')∨∃ j,Fd.z3s (s.data.toList.drop k)=.ok () (s.data.toList.drop j)∧e=.returned (.tuple #[])∧k≤j∧j≤s.size∧Xr w' R s j∧Moved R w w':=by
 have HX:=Ld h;have HG:=Ld hg;clear hg h;go_enter func63,ntmps63;go_wp2_with fail
 go_loopg [] s.size (fun g wx=>∃ j:Nat,k≤j∧j≤s.size∧s.size≤j + g∧Hid (Fd.z3s (s.data.toList.drop k)=Fd.z3s (s.data.toList.drop j))∧Hid (Xr wx R s j)∧Hid (Moved R w wx))
 case atStart=>exact⟨k,Lr,hk,by omega,rfl,HX,Moved.refl R w⟩
 case round =>
  obtain⟨j,hkj,hjs,hfu,HM,X,MV⟩:=hrel;have HW:=Ld (q0d X.out hjs hs);go_wp2_with fail;refine HW.out.mono ?_;rintro e w1 ⟨j1,hj1,hjs1,rfl,hsk,hx1,hm1⟩;have X1:=Ld hx1;have MV1:=Ld (MV.out.trans hm1);have HSK:=Ld hsk;clear hx1 hm1 hsk HW;have hlen1:(Fd.V9 (s.data.toList.drop j)).length=s.size - j1:=by rw[← HSK.out,List.length_drop,bs_len]
  have hlen0:(s.data.toList.drop j).length=s.size - j:=by rw[List.length_drop,bs_len]
  have HL1:=Ld hlen1;have HL0:=Ld hlen0;clear hlen1 hlen0
  by_cases hlt:j < j1
  ·have hp:(0:Int) < (j1:Int) - j:=by omega
   have HN:Hid (Fd.z3s (s.data.toList.drop k)=Fd.z3s (s.data.toList.drop j1)):=by
    show _=_;rw[HM.out,Fd.q81 (by rw[HL1.out,HL0.out];omega),← HSK.out]
   obtain⟨g',rfl⟩:∃ g',gk=g' + 1:=⟨gk - 1,by omega⟩;go_wp2_with fail
   go_roundg g'
   case measure=>omega
   case rel=>exact⟨j1,by omega,hjs1,by omega,HN,X1,MV1⟩
  ·have hje:j1=j:=by omega
   subst hje;have hp:¬ (0:Int) < (j1:Int) - j1:=by omega
   have hno:¬ (Fd.V9 (s.data.toList.drop j1)).length < (s.data.toList.drop j1).length:=by rw[HL1.out,HL0.out];omega
   have HNO:=Ld hno;clear hno;have GL1:=Ld (HG.out.below (MV1.out.below (Lr)) hR);have HAS:=Ld (j07 GL1.out hR X1.out hjs hs);go_wp2_with fail;refine HAS.out.mono ?_;rintro e w2 (⟨ha,rfl,hx,hm⟩ | ⟨ha,rfl,hm⟩ | ⟨j2,ha,rfl,hj2,hjs2,hx,hm⟩)
   ·have HE:Hid (Fd.z3s (s.data.toList.drop k)=.ok () (s.data.toList.drop j1)):=by show _=_;rw[HM.out,Fd.j5h HNO.out ha]
    have R1:=Ld hx;have R2:=Ld (MV1.out.trans hm);clear ha hx hm;go_wp2_with fail;go_end0;exact .inr ⟨j1,HE.out,by rfl,hkj,hjs,R1.out,R2.out⟩
   ·have HE:Hid (Fd.z3s (s.data.toList.drop k)=.er 1):=by show _=_;rw[HM.out,Fd.miscX_er HNO.out ha]
    have R2:=Ld (MV1.out.trans hm);clear ha hm;go_wp2_with fail;exact⟨rfl,.inl ⟨HE.out,rfl,R2.out⟩⟩
   ·have HN:Hid (Fd.z3s (s.data.toList.drop k)=Fd.z3s (s.data.toList.drop j2)):=by show _=_;rw[HM.out,Fd.q80 HNO.out ha]
    have R1:=Ld hx;have R2:=Ld (MV1.out.trans hm);clear ha hx hm;obtain⟨g',rfl⟩:∃ g',gk=g' + 1:=⟨gk - 1,by omega⟩;go_wp2_with fail
    go_roundg g'
    case measure=>omega
    case rel=>exact⟨j2,by omega,hjs2,by omega,HN,R1,R2⟩
end
end Go.Proofs.YtagleefekmdldaaGreatDoor
namespace Fd
theorem q3k (s:Bs) (f:Bool) (c:UInt8) (t:Bs) (h:s=c :: t):z5f f s=if z1s f c then c :: z5f false t else []:=by rw[h];rfl
end Fd
namespace Go.Proofs.YtagleefekmdldaaGreatDoor
open Go.Proofs.Tryz Go.RowKit
section
variable {w w' : World} {R : Nat} {s : ByteArray} {k : Nat}
theorem q5a (h:Xr w R s k) (hk:k≤s.size) (hs:s.size≤1048576) :
  Calls prog 99 #[.pointer (some ⟨R,0,none⟩)] w fun e w' =>
   (Fd.X5 (s.data.toList.drop k)=.er 1∧e=GaveX 1∧Moved R w w')∨∃ nm j,Fd.X5 (s.data.toList.drop k)=.ok nm (s.data.toList.drop j)∧e=.returned (.string (st nm))∧k≤j∧j≤s.size∧Xr w' R s j∧Moved R w w'∧Fd.X0 nm=true:=by
 have c1:=h.c1;have HX:=Ld h;have HTX:Hid (Fd.X5 (s.data.toList.drop k)=if Fd.X0 (Fd.z5f true (s.data.toList.drop k)) then .ok (Fd.z5f true (s.data.toList.drop k)) ((s.data.toList.drop k).drop (Fd.z5f true (s.data.toList.drop k)).length) else .er 1):=rfl;clear h;go_enter func99,ntmps99;go_wp2_with fail;clear c1
 go_loopg [] s.size (fun g wx=>∃ j:Nat,k≤j∧j≤s.size∧s.size≤j + g∧Hid (Fd.z5f true (s.data.toList.drop k)=(s.data.toList.drop k).take (j - k)++Fd.z5f (decide (j=k)) (s.data.toList.drop j))∧Hid (Xr wx R s j)∧Hid (Moved R w wx))
 case atStart=>exact⟨k,Lr,hk,by omega,by show _=_;rw[Nat.sub_self,List.take_zero,List.nil_append,decide_eq_true rfl],HX,Moved.refl R w⟩
 case round =>
  obtain⟨j,hkj,hjs,hfu,HS,X,MV⟩:=hrel;have c0:=X.out.c0;have c1:=X.out.c1;have f1:=X.out.fz 1;have HFIN:Hid (Fd.z5f (decide (j=k)) (s.data.toList.drop j)=[]→(Fd.z5f true (s.data.toList.drop k)=(s.data.toList.drop k).take (j - k)∧(Fd.z5f true (s.data.toList.drop k)).length=j - k)):=by
   intro q;have h1:=HS.out;rw[q,List.append_nil] at h1;refine⟨h1,?_⟩;rw[h1,List.length_take,List.length_drop,bs_len];omega
  have hx:s.extract k j=st ((s.data.toList.drop k).take (j - k)):=by rw[Z4]
  have hkj1:(k:Int)≤j:=by omega
  have hjs1:(j:Int)≤s.size:=by omega
  by_cases hgo:∃ q:j < s.size,Fd.z1s (decide (j=k)) s[j]=true
  ·obtain⟨hlt,hb⟩:=hgo
   have hj1:(j:Int) < s.size:=by omega
   have hdr:=X6 s j hlt;have HW:=Ld (fun W=>z3o s[j] (decide (j=k)) W);have HSK:Hid (Fd.z5f (decide (j=k)) (s.data.toList.drop j)=s[j] :: Fd.z5f false (s.data.toList.drop (j + 1))):=by
    show _=_;rw[Fd.q3k _ _ _ _ hdr,hb,if_pos rfl]
   have HTA:Hid ((s.data.toList.drop k).take (j + 1 - k)=(s.data.toList.drop k).take (j - k)++[s[j]]):=by
    show _=_;have hlt2:j - k < (s.data.toList.drop k).length:=by rw[List.length_drop,bs_len];omega
    rw[show j + 1 - k=(j - k) + 1 by omega,List.take_succ_eq_append_getElem hlt2]
    congr 2
    rw[List.getElem_drop];have:k + (j - k)=j:=by omega
    simp only [this];rfl
   have hjk:((j:Int) == (k:Int))=decide (j=k):=by rw[Bool.eq_iff_iff,beq_iff_eq,decide_eq_true_iff];omega
   rw[hb] at HW;obtain⟨g',rfl⟩:∃ g',gk=g' + 1:=⟨gk - 1,by omega⟩;clear hb hdr HFIN hx;go_wp2_with fail
   go_quiet ((go_at_call 112;exact Calls.quiet_of_same (HW.out _)))
   go_wp2_with fail
   go_roundg g'
   case measure=>omega
   case rel=>exact⟨j + 1,by omega,by omega,by omega,by show _=_;rw[HS.out,HSK.out,HTA.out,decide_eq_false (by omega:¬ j + 1=k)];simp,by show Xr _ _ _ _;have:=(X.out.drewN nq).at_ (j + 1);simpa using this,(MV.out.drewN _).setCell 1 _⟩
  ·have hnil:Fd.z5f (decide (j=k)) (s.data.toList.drop j)=[]:=by
    by_cases hlt:j < s.size
    ·rw[Fd.q3k _ _ _ _ (X6 s j hlt),if_neg (fun q=>hgo ⟨hlt,q⟩)]
    ·rw[List.drop_of_length_le (by rw[bs_len];omega)];rfl
   obtain⟨hn1,hn2⟩:=HFIN.out hnil;have HTI:=Ld (fun W=>q59 ((s.data.toList.drop k).take (j - k)) W (by rw[List.length_take,List.length_drop,bs_len];omega));have HE0:Hid (Fd.X5 (s.data.toList.drop k)=if Fd.X0 ((s.data.toList.drop k).take (j - k)) then .ok ((s.data.toList.drop k).take (j - k)) (s.data.toList.drop j) else .er 1):=by
    show _=_;rw[HTX.out,hn2,hn1,List.drop_drop,show k + (j - k)=j by omega]
   clear hnil hn1 hn2 HFIN HS;obtain⟨b,hb⟩:∃ b,Fd.X0 ((s.data.toList.drop k).take (j - k))=b:=⟨_,rfl⟩;have HBT:=Ld hb;rw[hb] at HTI HE0;clear hb;clear HTX
   by_cases hlt:j < s.size
   ·have hj1:(j:Int) < s.size:=by omega
    have hjk:((j:Int) == (k:Int))=decide (j=k):=by rw[Bool.eq_iff_iff,beq_iff_eq,decide_eq_true_iff];omega
    have HW:=Ld (fun W=>z3o s[j] (decide (j=k)) W);have hf:Fd.z1s (decide (j=k)) s[j]=false:=Bool.eq_false_iff.2 (fun q=>hgo ⟨hlt,q⟩);rw[hf] at HW;clear hf hgo;go_wp2_with fail
    go_quiet ((go_at_call 112;exact Calls.quiet_of_same (HW.out _)))
    go_wp2_with fail
    go_quiet (fail)
    go_wp2_with fail;refine(HTI.out _).mono ?_;rintro e w2 ⟨rfl,hw2⟩;subst w2
    cases b with
    | true =>
     have HE:Hid (Fd.X5 (s.data.toList.drop k)=.ok ((s.data.toList.drop k).take (j - k)) (s.data.toList.drop j)):=by show _=_;rw[HE0.out];rfl
     go_wp2_with fail;go_ret;exact .inr ⟨_,j,HE.out,(by first | rfl | (rw[hx];rfl)),hkj,hjs,X.out.drewN _,MV.out.drewN _,HBT.out⟩
    | false =>
     have HE:Hid (Fd.X5 (s.data.toList.drop k)=.er 1):=by show _=_;rw[HE0.out];rfl
     go_wp2_with fail;refine(z3g 1 _).mono ?_;rintro e w3 ⟨rfl,hw3⟩;subst w3;go_wp2_with fail;exact⟨rfl,.inl ⟨HE.out,rfl,MV.out.drewN _⟩⟩
   ·have hj1:¬ (j:Int) < s.size:=by omega
    clear hgo;go_wp2_with fail
    go_quiet (fail)
    go_wp2_with fail
    go_quiet (fail)
    go_wp2_with fail;refine(HTI.out _).mono ?_;rintro e w2 ⟨rfl,hw2⟩;subst w2
    cases b with
    | true =>
     have HE:Hid (Fd.X5 (s.data.toList.drop k)=.ok ((s.data.toList.drop k).take (j - k)) (s.data.toList.drop j)):=by show _=_;rw[HE0.out];rfl
     go_wp2_with fail;go_ret;exact .inr ⟨_,j,HE.out,(by first | rfl | (rw[hx];rfl)),hkj,hjs,X.out.drewN _,MV.out.drewN _,HBT.out⟩
    | false =>
     have HE:Hid (Fd.X5 (s.data.toList.drop k)=.er 1):=by show _=_;rw[HE0.out];rfl
     go_wp2_with fail;refine(z3g 1 _).mono ?_;rintro e w3 ⟨rfl,hw3⟩;subst w3;go_wp2_with fail;exact⟨rfl,.inl ⟨HE.out,rfl,MV.out.drewN _⟩⟩
end
theorem q94 (args:Array Value) (w:World):(callFunc 83 args).run prog w=.ok (.enter 83 args) w:=Z7 func83 (by kernel_rfl) rfl _ _
theorem q5x (l:List Mk.At) (v:Value) (K:Nat→Prop) (w:World) (hv:AtsV w K v l) (hK:∀ b,K b→b < w.heap.size) (hl:Mk.Fo.atB l≤1000000) :
  Calls prog 73 #[v,.func (.func 83) #[] #[]] w fun e w'=>e=.returned (.int .i64 (Mk.J3 Fd.X0 [] l))∧Below w.heap.size w w':=by
 have hll:=Mk.z1l l;obtain⟨b,o,cap,hKb,hv1,hcl⟩:=hv.at_
 have HC:=Ld hcl;have EG:=Ld q94;clear hcl;have eg:=q94
 rcases hv1 with hv1 | ⟨ao,hv1,hl0⟩
 ·subst hv1
  have hcap:l.length≤cap:=by
   obtain⟨ao',cap',h1,_,h3,_⟩:=hv;injection h1 with _ _ e3;rw[e3];exact h3
  go_enter func73,ntmps73;go_wp2_with fail
  go_loopw [9] (fun i wr=>∃ k:Nat,k≤l.length∧i=.int .i64 k∧Hid (Mk.J3 Fd.X0 [] l=Mk.J3 Fd.X0 (l.take k) (l.drop k))∧Hid (Below w.heap.size w wr)) (fun i _=>l.length - (intOf i).toNat)
  case atStart=>exact⟨0,Nat.zero_le _,rfl,rfl,Below.refl _ _⟩
  case round =>
   obtain⟨k,hk,rfl,HA,BL⟩:=hrel;have hsz:=BL.out.size
   by_cases hlt:k < l.length
   ·have hb:b < w.heap.size:=hK b (hKb (by intro e;subst e;simp at hlt))
    obtain⟨c0,c1⟩:=HC.out k hlt;rw[← BL.out.cell (p:=⟨b,_,none⟩) hb] at c0 c1;have hmem:=Mk.q0k (List.getElem_mem hlt);have HD:Hid (Mk.J3 Fd.X0 [] l=if !Fd.X0 l[k].n then 1 else if Mk.z1d (l.take k) l[k].n then 6 else Mk.J3 Fd.X0 (l.take (k + 1)) (l.drop (k + 1))):=by show _=_;rw[HA.out,Mk.z7m _ _ _ hlt]
    generalize l[k]=a at c0 c1 HD hmem;have hnm:=fun W=>q59 a.n W (by omega)
    have hal:=(Below.refl wr.heap.size wr).alloc (Lr) (.cells #[.string (st a.n),.string (st a.v)] 73);have PB:=Ld (Blk.new wr 73 #[.string (st a.n),.string (st a.v)]);have BL1:=Ld (BL.out.trans (hal.mono hsz))
    cases hin:Fd.X0 a.n with
    | false =>
     rw[hin] at HD hnm;have HN:=Ld hnm;clear hnm hin HC HA hal;go_wp2_with fail;refine(HN.out _).mono ?_;rintro e w2 ⟨rfl,rfl⟩;go_wp2_with fail;go_ret;exact⟨by rw[HD.out];rfl,BL1.out⟩
    | true =>
     rw[hin] at HD hnm;have HN:=Ld hnm;obtain⟨hh,hhe⟩:∃ hh,Mk.z1d (l.take k) a.n=hh:=⟨_,rfl⟩;rw[hhe] at HD;have hvw:AtsV (wr.alloc (.cells #[.string (st a.n),.string (st a.v)] 73)) K (.slice (some ⟨b,o,none⟩) k cap) (l.take k):=(AtsV.take hv k hk).below hK BL1.out;have hcf:=z14 105 #[.pointer (some ⟨wr.heap.size,0,none⟩)] (fun x=>x.n == a.n) q5n (l.take k) (.slice (some ⟨b,o,none⟩) k cap) K _ hvw (fun b hb=>Nat.lt_of_lt_of_le (hK b hb) BL1.out.size) (by rw[List.length_take];omega) (q0i wr.heap.size a.n (l.take k) _ (Blk.lt PB.out) (Blk.cell PB.out 0));rw[show (l.take k).any (fun x=>x.n == a.n)=hh from hhe] at hcf;have HCF:=Ld hcf;have hkc:(k:Int)≤cap:=by omega
     have hk0:(0:Int)≤k:=by omega
     clear hnm hin HC HA hal hvw hcf hhe
     cases hh with
     | true =>
      go_wp2_with fail;refine(HN.out _).mono ?_;rintro e w2 ⟨rfl,rfl⟩;go_wp2_with fail;refine HCF.out.mono ?_;rintro e w3 ⟨rfl,hb3⟩;have BL3:=Ld (BL1.out.trans (hb3.mono BL1.out.size));clear hb3 HCF;go_wp2_with fail;go_ret;exact⟨by rw[HD.out];rfl,BL3.out⟩
     | false =>
      go_wp2_with fail;refine(HN.out _).mono ?_;rintro e w2 ⟨rfl,rfl⟩;go_wp2_with fail;refine HCF.out.mono ?_;rintro e w3 ⟨rfl,hb3⟩;have BL3:=Ld (BL1.out.trans (hb3.mono BL1.out.size));clear hb3 HCF;go_wp2_with fail;go_roundw
      case rel=>exact⟨k + 1,by omega,by go_num,by show _=_;rw[HD.out];rfl,BL3⟩
      case measure=>simp[intOf];omega
   ·have hke:k=l.length:=by omega
    have HE:Hid (Mk.J3 Fd.X0 [] l=0):=by show _=_;rw[HA.out,List.drop_of_length_le (by omega)];rfl
    clear HA HC;go_wp2_with fail;go_ret;exact⟨by rw[HE.out];rfl,BL.out⟩
 ·subst hl0
  subst hv1;clear HC hK;go_enter func73,ntmps73;go_wp2_with fail
  go_loopw [9] (fun i wr=>i=.int .i64 0∧wr=w) (fun _ _=>0)
  case atStart=>exact⟨rfl,rfl⟩
  case round =>
   obtain⟨rfl,rfl⟩:=hrel;go_wp2_with fail;go_ret;exact⟨rfl,Below.refl _ _⟩
theorem q8x (s:List UInt8) (w:World) (hs:s.length≤1048576) (hg:Gl w) :
  Calls prog 129 #[.string (st s)] w fun e w'=>Below w.heap.size w w'∧(((Mk.take s).2=true∧e=.returned (.string (st (Mk.take s).1)))∨((Mk.take s).2=false∧e=GaveX 1)):=by
 have HT:=Ld (q17 (st s) w (by rw[y9];exact hs) hg);rw[z0b] at HT;generalize hp:Mk.take s=p at HT ⊢;obtain⟨t,ok⟩:=p;clear hp
 cases ok with
 | true =>
  go_enter func129,ntmps129;go_wp2_with fail;refine HT.out.mono ?_;rintro e w1 ⟨rfl,hb⟩;go_wp2_with fail;go_ret;exact⟨hb,.inl ⟨(by first | rfl | trivial),(by first | rfl | trivial)⟩⟩
 | false =>
  go_enter func129,ntmps129;go_wp2_with fail;refine HT.out.mono ?_;rintro e w1 ⟨rfl,hb⟩;go_wp2_with fail;refine(z3g 1 _).mono ?_;rintro e w2 ⟨rfl,hw2⟩;subst w2;go_wp2_with fail;exact⟨rfl,hb,.inr ⟨(by first | rfl | trivial),(by first | rfl | trivial)⟩⟩
theorem skip_at (s:ByteArray) (k:Nat) (hk:k≤s.size):∃ j,k≤j∧j≤s.size∧s.data.toList.drop j=Fd.V9 (s.data.toList.drop k):=by
 have h:=List.dropWhile_suffix Fd.z9o (l:=s.data.toList.drop k);obtain⟨p,hp⟩:=h;refine⟨k + p.length,by omega,?_,?_⟩
 ·have:=congrArg List.length hp
  rw[List.length_append,List.length_drop,bs_len] at this;omega
 ·rw[← List.drop_drop];show _=List.dropWhile Fd.z9o _;conv=>lhs;rw[← hp]
  exact List.drop_left
section
variable {w : World} {R : Nat} {s : ByteArray} {k j : Nat}
theorem drop_inj {s:ByteArray} {a b:Nat} (ha:a≤s.size) (hb:b≤s.size) (h:s.data.toList.drop a=s.data.toList.drop b):a=b:=by
 have:=congrArg List.length h;rw[List.length_drop,List.length_drop,bs_len] at this;omega
theorem j3j (h:Xr w R s k) (hk:k≤s.size) (hs:s.size≤1048576) (hj:j≤s.size) (hd:s.data.toList.drop j=Fd.V9 (s.data.toList.drop k)) :
  Calls prog 96 #[.pointer (some ⟨R,0,none⟩)] w fun e w'=>e=.returned (.int .i64 ((j:Int) - k))∧Xr w' R s j∧Moved R w w':=by
 refine(q0d h hk hs).mono ?_;rintro e w1 ⟨j',h1,h2,h3,h4,h5,h6⟩;have e:j'=j:=drop_inj h2 hj (h4.trans hd.symm);subst e;exact⟨h3,h5,h6⟩
end
end Go.Proofs.YtagleefekmdldaaGreatDoor
namespace Fd
open Mk
def q5b (n:Bs) (a:List At) (t:Bs) (k:Fo) (deep:Int):Prop:=if n=[] then t ≠ []∧a=[]∧k=.nil else X0 n=true∧t=[]∧J3 X0 [] a=0∧XOk k deep false
theorem XOk.one {n:Bs} {a:List At} {t:Bs} {k r:Fo} {deep:Int} {prev:Bool} (h:XOk (.node n a t k r) deep prev):q5b n a t k (deep + 1)∧(n=[]→prev=false)∧XOk r deep (decide (n=[])):=by
 unfold XOk at h;unfold q5b
 by_cases hn:n=[]
 ·rw[if_pos hn] at h
  rw[if_pos hn,decide_eq_true hn];exact⟨⟨h.2.1,h.2.2.1,h.2.2.2.1⟩,fun _=>h.1,h.2.2.2.2⟩
 ·rw[if_neg hn] at h
  rw[if_neg hn,decide_eq_false hn];exact⟨⟨h.1,h.2.1,h.2.2.2.1,h.2.2.2.2.1⟩,fun q=>absurd q hn,h.2.2.2.2.2⟩
end Fd
namespace Go.Proofs.YtagleefekmdldaaGreatDoor
open Go.Proofs.Tryz Go.RowKit
theorem xm_node (N:Nat):∀ (n:List UInt8) (a:List Mk.At) (t:List UInt8) (k:Mk.Fo) (deep:Int),k.bulk < N→n.length + t.length + Mk.Fo.atB a + k.bulk≤1000000→Fd.q5b n a t k deep→∀ (va vk:Value) (K:Nat→Prop) (w:World),AtsV w K va a→FoV w K vk k→(∀ b,K b→b < w.heap.size) →
  Calls prog 52 #[z0d n va t vk] w fun e w'=>e=.returned (.int .i64 0)∧Below w.heap.size w w':=by
 induction N with
 | zero=>intro n a t k deep h;omega
 | succ N ih =>
  intro n a t k deep hN hl hok va vk K w hva hvk hK;have hst:∀ l:List UInt8,(st l).toList=l:=fun l=>Lib.toList_data _
  have HIH:=Ld ih;clear ih;obtain⟨g,o,cap,hv1,hlen,hat⟩:=hvk.at_
  have HAT:=Ld hat
  obtain⟨aoa,capa,hva1,_⟩:=id hva;subst hva1;obtain⟨aok,capk,xsk,hvk1,_⟩:=id hvk;subst hvk1;have hfl:=Mk.Fo.z0m k;have hll:=Mk.z1l a;have HV1:=Ld hv1;have hal:=(Below.refl w.heap.size w).alloc (Lr) (.cells #[.string (st n),.slice aoa a.length capa,.string (st t),.slice aok k.len capk] 38);have AL:=Ld hal;have NB:=Ld (Blk.new w 38 #[.string (st n),.slice aoa a.length capa,.string (st t),.slice aok k.len capk]);have HTA:=Ld (fun W (hW:Below w.heap.size w W)=>q5x a (.slice aoa a.length capa) K W (hva.below hK hW) (fun b q=>Nat.lt_of_lt_of_le (hK b q) hW.size) (by omega));clear hal hat hva hvk hv1;unfold z0d;go_enter func52,ntmps52;go_upto_region 1 with fail;obtain⟨X,hX⟩:∃ X,X=w.heap.size:=⟨_,rfl⟩;rw[← hX] at NB;rw[← hX];generalize w.alloc (.cells #[.string (st n),.slice aoa a.length capa,.string (st t),.slice aok k.len capk] 38)=w1 at AL NB ⊢;clear hX;have p0:w1.cell? ⟨X,0,none⟩=some (.string (st n)):=Blk.cell NB.out 0;have p1:w1.cell? ⟨X,1,none⟩=some (.slice aoa a.length capa):=Blk.cell NB.out 1;have p2:w1.cell? ⟨X,2,none⟩=some (.string (st t)):=Blk.cell NB.out 2;have p3:w1.cell? ⟨X,3,none⟩=some (.slice aok k.len capk):=Blk.cell NB.out 3;unfold Fd.q5b at hok
  rcases z7s n with ⟨e1,e2⟩ | ⟨e1,e2⟩
  ·rw[if_pos e1] at hok
   obtain⟨h1,h2,h3⟩:=hok;have t2:t.isEmpty=false:=by
    cases t with
    | nil=>exact absurd rfl h1
    | cons _ _=>rfl
   have a2:¬ 0 < a.length:=by rw[h2];simp
   have k2:¬ 0 < k.len:=by rw[h3];simp[Mk.Fo.len]
   clear e1 h1 h2 h3 HTA HAT HIH HV1 hfl hll NB;generalize a.length=la at p1 a2 ⊢;generalize k.len=lk at p3 k2 ⊢;go_wp2_with fail;go_ret;exact⟨rfl,AL.out⟩
  rw[if_neg e1] at hok;clear e1;obtain⟨h1,h2,h3,h4⟩:=hok;have HX:=Ld h4;subst h2;have e0:([]:List UInt8).isEmpty=true:=rfl;have HT:Hid (∀ W,Calls prog 83 #[.string (st n)] W fun e w'=>e=.returned (.bool true)∧w'=W):=fun W=>by rw[← h1];exact q59 n W (by omega)
  clear h1 h4;go_wp2_with fail;refine(HT.out _).mono ?_;rintro e w2 ⟨rfl,hw2⟩;rw[hw2];clear hw2 w2 HT;rw[h3] at HTA;have HA:=Ld (HTA.out w1 AL.out);clear HTA h3;go_wp2_with fail;refine HA.out.mono ?_;rintro e w2 ⟨rfl,hb2⟩;have B2:=Ld (AL.out.trans (hb2.mono AL.out.size));have NB2:=Ld (Blk.below NB.out hb2 NB.out.lt);clear hb2 HA p0 p1 p2 p3 NB AL;have p3:w2.cell? ⟨X,3,none⟩=some (.slice aok k.len capk):=Blk.cell NB2.out 3;go_upto_region 11 with fail
  go_loopw [51] (fun i wr=>∃ (j:Nat) (pv:Bool),j≤k.len∧i=.int .i64 j∧Hid (Fd.XOk (k.drop j) deep pv)∧Hid (∀ j',j=j' + 1→∀ n0 a0 t0 k0 r0,k.drop j'=.node n0 a0 t0 k0 r0→pv=decide (n0=[]))∧Hid (Below w.heap.size w wr)∧Hid (Blk wr X 38 #[.string (st n),.slice aoa a.length capa,.string (st []),.slice aok k.len capk])) (fun i _=>k.len - (intOf i).toNat)
  case atStart=>exact⟨0,false,Nat.zero_le _,rfl,by show Fd.XOk _ _ _;rw[Mk.Fo.drop_zero];exact HX.out,fun j' q=>by omega,B2,NB2⟩
  case round =>
   obtain⟨j,pv,hj,rfl,HXJ,HPV,BL,NBR⟩:=hrel
   by_cases hlt:j < k.len
   ·obtain⟨n',a',t',kk,r,hd,hd1⟩:=Mk.Fo.z1x k j hlt
    obtain⟨va',vk',c0,c1,c2,c3,hva',hvk'⟩:=HAT.out j n' a' t' kk r hd;have hkn:k ≠ .nil:=by rintro rfl;exact absurd hlt (Nat.not_lt_zero _)
    rcases HV1.out with ⟨hq,hKg⟩ | ⟨ao,hq,h0⟩
    case inr=>exact absurd h0 hkn
    injection hq with q1 q2 q3;subst q1;have hgl:g < w.heap.size:=hK g hKg;clear q2 q3 hkn;rw[← BL.out.cell (p:=⟨g,_,none⟩) hgl] at c0 c1 c2 c3;obtain⟨aoa',capa',hva1',_⟩:=id hva';obtain⟨aok',capk',xsk',hvk1',_⟩:=id hvk';subst hva1';subst hvk1';have hdb:(k.drop j).bulk=1 + n'.length + t'.length + Mk.Fo.atB a' + kk.bulk + r.bulk:=by rw[hd];rfl
    have hdb2:=Mk.Fo.z0s k j;have HXJ2:=HXJ.out;rw[hd] at HXJ2;obtain⟨hone,hpv0,hnx⟩:=HXJ2.one;have hal1:=(Below.refl wr.heap.size wr).alloc (Lr) (.cells #[.string (st n'),.slice aoa' a'.length capa',.string (st t'),.slice aok' kk.len capk'] 38);have BL1:=Ld (BL.out.trans (hal1.mono BL.out.size));have NB1:=Ld (Blk.alloc NBR.out (.cells #[.string (st n'),.slice aoa' a'.length capa',.string (st t'),.slice aok' kk.len capk'] 38));have QB:=Ld (Blk.new wr 38 #[.string (st n'),.slice aoa' a'.length capa',.string (st t'),.slice aok' kk.len capk']);have HC:=Ld (HIH.out n' a' t' kk _ (by omega) (by omega) hone _ _ K (wr.alloc (.cells #[.string (st n'),.slice aoa' a'.length capa',.string (st t'),.slice aok' kk.len capk'] 38)) (hva'.below hK BL1.out) (hvk'.below hK BL1.out) (fun b hb=>Nat.lt_of_lt_of_le (hK b hb) BL1.out.size));have HNX:Hid (Fd.XOk (k.drop (j + 1)) deep (decide (n'=[]))):=by show Fd.XOk _ _ _;rw[hd1];exact hnx
    have HPN:Hid (∀ j',j + 1=j' + 1→∀ n0 a0 t0 k0 r0,k.drop j'=.node n0 a0 t0 k0 r0→decide (n'=[])=decide (n0=[])):=by
     show ∀ j',j + 1=j' + 1→∀ n0 a0 t0 k0 r0,k.drop j'=.node n0 a0 t0 k0 r0→decide (n'=[])=decide (n0=[]);intro j' hj' n0 a0 t0 k0 r0 h0;have:j'=j:=by omega
     subst this;rw[hd] at h0;injection h0 with e1;rw[e1]
    have hji:(j:Int) < k.len:=by omega
    have HPREV:Hid (n'=[]→∀ j',j=j' + 1→∃ n0,n0.isEmpty=false∧w.cell? ⟨g,o + j' * 4,none⟩=some (.string (st n0))):=by
     show n'=[]→∀ j',j=j' + 1→∃ n0:List UInt8,n0.isEmpty=false∧w.cell? ⟨g,o + j' * 4,none⟩=some (.string (st n0));intro he j' hj';obtain⟨n0,a0,t0,k0,r0,h0,_⟩:=Mk.Fo.z1x k j' (by omega);obtain⟨_,_,z0,_⟩:=HAT.out j' n0 a0 t0 k0 r0 h0;have hpp:=HPV.out j' hj' n0 a0 t0 k0 r0 h0;rw[hpv0 he] at hpp;have hn0:n0 ≠ []:=of_decide_eq_false hpp.symm;refine⟨n0,?_,z0⟩
     cases n0 with
     | nil=>exact absurd rfl hn0
     | cons _ _=>rfl
    unfold z0d at HC;clear hd hd1 hva' hvk' hal1 NBR hone hnx hpv0 HXJ2;go_upto_region 13 with fail;generalize wr.alloc (.cells #[.string (st n'),.slice aoa' a'.length capa',.string (st t'),.slice aok' kk.len capk'] 38)=w3 at BL1 QB HC NB1 ⊢;have q0:w3.cell? ⟨wr.heap.size,0,none⟩=some (.string (st n')):=Blk.cell QB.out 0;have q1:w3.cell? ⟨wr.heap.size,1,none⟩=some (.slice aoa' a'.length capa'):=Blk.cell QB.out 1;have q2:w3.cell? ⟨wr.heap.size,2,none⟩=some (.string (st t')):=Blk.cell QB.out 2;have q3:w3.cell? ⟨wr.heap.size,3,none⟩=some (.slice aok' kk.len capk'):=Blk.cell QB.out 3;clear c0 c1 c2 c3;go_wp2_with fail;refine HC.out.mono ?_;rintro e w4 ⟨rfl,hb4⟩;have BL4:=Ld (BL1.out.trans (hb4.mono BL1.out.size));have NB4:=Ld (Blk.below NB1.out hb4 NB1.out.lt);have r0:w4.cell? ⟨wr.heap.size,0,none⟩=some (.string (st n')):=Blk.cell (Blk.below QB.out hb4 QB.out.lt) 0;have r3:w4.cell? ⟨X,3,none⟩=some (.slice (some ⟨g,o,none⟩) k.len capk):=Blk.cell NB4.out 3;clear hb4 HC q0 q1 q2 q3 NB1
    by_cases hj0:j=0
    ·subst hj0
     go_wp2_with fail;go_roundw
     case rel=>exact⟨0 + 1,_,by omega,by go_num,HNX,HPN,BL4,NB4⟩
     case measure=>simp[intOf];omega
    ·have hjp:(0:Int) < j:=by omega
     rcases z7s n' with ⟨e1,e2⟩ | ⟨e1,e2⟩
     ·obtain⟨j',rfl⟩:∃ j',j=j' + 1:=⟨j - 1,by omega⟩
      obtain⟨n0,h0,z0⟩:=HPREV.out e1 j' rfl;rw[← BL4.out.cell (p:=⟨g,_,none⟩) hgl] at z0;have hsub:((j' + 1:Nat):Int) - 1=j':=by omega
      have hlt2:(j':Int) < k.len:=by omega
      clear HPREV hji hdb hdb2;go_wp2_with fail;go_roundw
      case rel=>exact⟨j' + 1 + 1,_,by omega,by go_num,HNX,HPN,BL4,NB4⟩
      case measure=>simp[intOf];omega
     ·go_wp2_with fail
      go_roundw
      case rel=>exact⟨j + 1,_,by omega,by go_num,HNX,HPN,BL4,NB4⟩
      case measure=>simp[intOf];omega
   ·have hji:¬ (j:Int) < k.len:=by omega
    clear HXJ HPV;go_wp2_with fail;go_ret;exact⟨rfl,BL.out⟩
end Go.Proofs.YtagleefekmdldaaGreatDoor
