/- Contract of the token reader's method value. Condition: a text of at most 1048576 bytes. -/
import Derived.Test.YtagleefekmdldaaGreatDoorYMkTok1
import Derived.ChangeAlike
import Derived.Test.YtagleefekmdldaaGreatDoorProg
import Derived.Conc.MuLone
import Derived.WalkKit
import Derived.Deep.CutBlock
import Derived.Deep.DeepCutAuto
import Derived.Test.YtagleefekmdldaaGreatDoorYMkPu
set_option linter.unusedVariables false
set_option linter.unusedSimpArgs false
set_option maxHeartbeats 4000000
set_option maxRecDepth 100000
namespace Mk
theorem z6r (q:UInt8→Bool):∀ l:Bs,l.drop (l.takeWhile q).length=l.dropWhile q
 | []=>rfl
 | c :: t=>by
  rw[List.takeWhile_cons,List.dropWhile_cons]
  cases q c with
  | true=>simpa using z6r q t
  | false=>rfl
theorem z2j (q:UInt8→Bool) (l:Bs):(l.takeWhile q).length≤l.length:=(List.takeWhile_sublist q).length_le
def z2r (c:UInt8):Bool:=c == 34 || c == 39
def z5k (c:UInt8):Bool:=!white c && c != 62
theorem z9n (r:Bs) (h:z4b z2r (r.dropWhile white)=false):valueOf r=some ((r.dropWhile white).takeWhile z5k,(r.dropWhile white).dropWhile z5k):=by
 unfold valueOf
 cases hd:r.dropWhile white with
 | nil=>rfl
 | cons q t =>
  rw[hd] at h;have hq:z2r q=false:=h;have:¬ (q=34∨q=39):=by
   intro e;unfold z2r at hq
   rcases e with rfl | rfl <;> cases hq
  simp only [if_neg this];rfl
theorem z8c (r:Bs) (q:UInt8) (t:Bs) (hd:r.dropWhile white=q :: t) (h:z2r q=true):valueOf r=(match t.dropWhile (· != q) with | []=>none | _ :: u=>some (t.takeWhile (· != q),u)):=by
 unfold valueOf;rw[hd];have:q=34∨q=39:=by unfold z2r at h;simpa using h
 simp only [if_pos this];rfl
end Mk
namespace Go.Proofs.YtagleefekmdldaaGreatDoor
open Go.Proofs.Tryz Go.RowKit
theorem Moved.ap {R:Nat} {w w':World} (h:Moved R w w'):Ap (fun b=>b=R) w w':=⟨h.os,h.tape,h.output,by rw[h.size];exact Lr,fun k _ hk=>h.block k hk⟩
section
variable {w : World} {R : Nat} {s : ByteArray} {k : Nat} {tx : List UInt8} {ov : Value}
theorem Rd.ap_far {S:Nat→Prop} {w':World} (h:Rd w R s k tx ov) (ha:Ap S w w') (hS:¬ S R):Rd w' R s k tx ov:=(ha.block R (Blk.lt h) hS).trans h
theorem adv (s:ByteArray) (k:Nat) (q:UInt8→Bool):s.data.toList.drop (k + ((s.data.toList.drop k).takeWhile q).length)=(s.data.toList.drop k).dropWhile q:=by
 rw[← List.drop_drop,Mk.z6r]
theorem z5n (s:ByteArray) (k:Nat) (hk:k≤s.size) (q:UInt8→Bool):k + ((s.data.toList.drop k).takeWhile q).length≤s.size:=by
 have:=Mk.z2j q (s.data.toList.drop k);rw[List.length_drop,bs_len] at this;omega

theorem q4q (h:Rd w R s k tx ov) (hk:k≤s.size) (hs:s.size≤1048576) (hq:Mk.z4b Mk.z2r ((s.data.toList.drop k).dropWhile Mk.white)=false) :
  Calls prog 162 #[.pointer (some ⟨R,0,none⟩)] w fun e w'=>∃ v r j,Mk.valueOf (s.data.toList.drop k)=some (v,r)∧e=.returned (.string (st v))∧j≤s.size∧k≤j∧r=s.data.toList.drop j∧Rd w' R s j tx ov∧Ap (fun b=>b=R) w w':=by
 have HV:=Ld (Mk.z9n _ hq);have e1:=adv s k Mk.white;have l1:=z5n s k hk Mk.white;rw[← e1] at hq HV;obtain⟨k1,hk1⟩:∃ k1,k1=k + ((s.data.toList.drop k).takeWhile Mk.white).length:=⟨_,rfl⟩;rw[← hk1] at hq HV l1;have HP:=Ld (z3v 142 #[] Mk.white q43 h hk hs (fun w' _=>z8f w'));rw[← hk1] at HP;have hkk:k≤k1:=by omega
 have e2:=adv s k1 Mk.z5k;have l2:=z5n s k1 l1 Mk.z5k;rw[← e2] at HV;clear e1 e2 hk1;go_enter func162,ntmps162;go_wp2_with fail;refine HP.out.mono ?_;rintro e w1 ⟨rfl,RD,MV⟩;have HH:=Ld (q4p 175 #[] Mk.z2r q5o RD (fun n=>q0j _));rw[hq] at HH;go_wp2_with fail;refine HH.out.mono ?_;rintro e w2 ⟨rfl,n,rfl⟩;go_wp2_with fail;refine(z3v 177 #[] Mk.z5k j4q (RD.drewN n) l1 hs (fun w' _=>q7d w')).mono ?_;rintro e w3 ⟨rfl,RD3,MV3⟩;go_wp2_with fail;go_ret;exact⟨_,_,_,HV.out,rfl,l2,by omega,rfl,RD3,((MV.drewN n).trans MV3).ap⟩

theorem q2d (h:Rd w R s k tx ov) (hk:k≤s.size) (hs:s.size≤1048576) (hq:Mk.z4b Mk.z2r ((s.data.toList.drop k).dropWhile Mk.white)=true) :
  Calls prog 162 #[.pointer (some ⟨R,0,none⟩)] w fun e w' =>
   (Mk.valueOf (s.data.toList.drop k)=none∧e=Gave∧(∃ j,Rd w' R s j tx ov)∧Ap (fun b=>b=R) w w') ∨
   ∃ v r j,Mk.valueOf (s.data.toList.drop k)=some (v,r)∧e=.returned (.string (st v))∧j≤s.size∧k≤j∧r=s.data.toList.drop j∧Rd w' R s j tx ov∧Ap (fun b=>b=R) w w':=by
 have e1:=adv s k Mk.white;have l1:=z5n s k hk Mk.white;obtain⟨k1,hk1⟩:∃ k1,k1=k + ((s.data.toList.drop k).takeWhile Mk.white).length:=⟨_,rfl⟩;rw[← hk1] at e1 l1;rw[← e1] at hq;have hlt:k1 < s.size:=by
  rcases Nat.lt_or_ge k1 s.size with h1 | h1
  ·exact h1
  ·rw[List.drop_of_length_le (by simp;omega)] at hq;cases hq
 have hqb:Mk.z2r s[k1]=true:=by rw[X6 s k1 hlt] at hq;exact hq
 have HV:=Ld (Mk.z8c (s.data.toList.drop k) s[k1] (s.data.toList.drop (k1 + 1)) (by rw[← e1,X6 s k1 hlt]) hqb);have HP:=Ld (z3v 142 #[] Mk.white q43 h hk hs (fun w' _=>z8f w'));rw[← hk1] at HP;have hkk:k≤k1:=by omega
 obtain⟨d,hde⟩:∃ d:UInt8,s[k1]=d:=⟨_,rfl⟩;rw[hde] at HV;have HDE:=Ld hde;have e2:=adv s (k1 + 1) (fun c=>c != d);have l2:=z5n s (k1 + 1) hlt (fun c=>c != d);obtain⟨k2,hk2⟩:∃ k2,k2=k1 + 1 + ((s.data.toList.drop (k1 + 1)).takeWhile (fun c=>c != d)).length:=⟨_,rfl⟩;rw[← hk2] at e2 l2;rw[← e2] at HV;have hkk2:k1 + 1≤k2:=by omega
 have HK2:=Ld hk2;clear e1 e2 hk1 hk2 hqb hde;go_enter func162,ntmps162;go_wp2_with fail;refine HP.out.mono ?_;rintro e w1 ⟨rfl,RD,MV⟩;have HH:=Ld (q4p 175 #[] Mk.z2r q5o RD (fun n=>q0j _));rw[hq] at HH;go_wp2_with fail;refine HH.out.mono ?_;rintro e w2 ⟨rfl,n,rfl⟩;go_wp2_with fail;have hn:=z8t (RD.drewN n) hlt hs;rw[HDE.out] at hn;refine hn.mono ?_;rintro e w3 ⟨rfl,RD3,MV3⟩;have hb:(d.toNat:Int)≤255:=by have:=d.toNat_lt;omega
 go_wp2_with fail;have QB:=Blk.new w3 5 #[.int .u8 (d.toNat:Int)];have AP4:=(((MV.drewN n).trans MV3).ap).alloc (.cells #[.int .u8 (d.toNat:Int)] 5);have RD4:Rd (w3.alloc (.cells #[.int .u8 (d.toNat:Int)] 5)) R s (k1 + 1) tx ov:=Blk.alloc RD3 _;have hQR:w3.heap.size ≠ R:=by have:=Blk.lt RD3;omega
 change Calls _ _ _ (w3.alloc (.cells #[.int .u8 (d.toNat:Int)] 5)) _;generalize w3.alloc (.cells #[.int .u8 (d.toNat:Int)] 5)=w4 at QB AP4 RD4 ⊢;generalize w3.heap.size=Q at QB hQR ⊢;have hp:=z3v 176 #[.pointer (some ⟨Q,0,none⟩)] (fun c=>c != d) j4p RD4 hlt hs (fun w' hm=>q7c Q d w' ((cell_of_block (hm.block Q hQR) 0).trans (QB.cell 0)));rw[← HK2.out] at hp;refine hp.mono ?_;rintro e w5 ⟨rfl,RD5,MV5⟩;have AP5:=AP4.trans MV5.ap;clear hp QB AP4 RD4 MV5 RD3 MV3 hn RD MV HP HH
 rcases Nat.lt_or_ge k2 s.size with h2 | h2
 ·rw[X6 s k2 h2] at HV
  go_wp2_with fail;refine(z8t RD5 h2 hs).mono ?_;rintro e w6 ⟨rfl,RD6,MV6⟩;go_wp2_with fail;go_ret;exact .inr ⟨_,_,_,HV.out,rfl,h2,by omega,rfl,RD6,AP5.trans MV6.ap⟩
 ·rw[show s.data.toList.drop k2=[] from List.drop_of_length_le (by simp;omega)] at HV
  go_wp2_with fail;refine(q1q RD5 (by omega)).mono ?_;rintro e w6 ⟨rfl,RD6,MV6⟩;go_wp2_with fail;exact⟨rfl,.inl ⟨HV.out,rfl,⟨_,RD6⟩,AP5.trans MV6.ap⟩⟩
theorem rd_value (h:Rd w R s k tx ov) (hk:k≤s.size) (hs:s.size≤1048576) :
  Calls prog 162 #[.pointer (some ⟨R,0,none⟩)] w fun e w' =>
   (Mk.valueOf (s.data.toList.drop k)=none∧e=Gave∧(∃ j,Rd w' R s j tx ov)∧Ap (fun b=>b=R) w w') ∨
   ∃ v r j,Mk.valueOf (s.data.toList.drop k)=some (v,r)∧e=.returned (.string (st v))∧j≤s.size∧k≤j∧r=s.data.toList.drop j∧Rd w' R s j tx ov∧Ap (fun b=>b=R) w w':=by
 cases hq:Mk.z4b Mk.z2r ((s.data.toList.drop k).dropWhile Mk.white) with
 | false=>exact(q4q h hk hs hq).mono fun _ _ hh=>.inr hh
 | true=>exact q2d h hk hs hq
end
def atV (a:Mk.At):Value:=.agg #[.string (st a.n),.string (st a.v)]
def j0b (g:FuncId) (lb:Array Value) (q:Mk.At→Bool) (l:List Mk.At) (w:World):Prop :=
 ∀ w1,Below w.heap.size w w1→∀ a,a ∈ l→Calls prog g (#[atV a]++lb) w1 fun e w'=>e=.returned (.bool (q a))∧Below w1.heap.size w1 w'
theorem z7a (l:List Mk.At) (k:Nat) (h:k < l.length):(Z5 l)[2 * k]? = some (.string (st l[k].n))∧(Z5 l)[2 * k + 1]? = some (.string (st l[k].v)):=by
 induction l generalizing k with
 | nil=>simp at h
 | cons a t ih =>
  cases k with
  | zero=>exact⟨rfl,rfl⟩
  | succ k =>
   have h':k < t.length:=by simpa using h
   have e:Z5 (a :: t)=[.string (st a.n),.string (st a.v)]++Z5 t:=rfl;rw[e,show 2 * (k + 1)=2 * k + 2 by omega];obtain⟨h1,h2⟩:=ih k h';exact⟨by rw[List.getElem?_append_right (by simp)];simpa using h1,by rw[List.getElem?_append_right (by simp)];simpa using h2⟩
theorem z04 (l:List Mk.At):(Z5 l).length=l.length * 2:=by
 induction l with
 | nil=>rfl
 | cons a t ih=>rw[show Z5 (a :: t)=[.string (st a.n),.string (st a.v)]++Z5 t from rfl,List.length_append,ih,List.length_cons];simp;omega
theorem AtsV.at_ {w:World} {K:Nat→Prop} {v:Value} {l:List Mk.At} (h:AtsV w K v l):∃ g o cap,(l ≠ []→K g)∧(v=.slice (some ⟨g,o,none⟩) l.length cap∨∃ ao,v=.slice ao 0 cap∧l=[])∧∀ k (hk:k < l.length),w.cell? ⟨g,o + k * 2,none⟩=some (.string (st l[k].n))∧w.cell? ⟨g,o + k * 2 + 1,none⟩=some (.string (st l[k].v)):=by
 obtain⟨ao,cap,h1,h2,_⟩:=h
 rcases h2 with h2 | ⟨g,o,h3,h4,h5,_⟩
 ·have:l=[]:=List.eq_nil_of_length_eq_zero (by have:=z04 l;rw[h2] at this;simp at this;omega)
  subst this;exact⟨0,0,cap,fun h=>absurd rfl h,.inr ⟨ao,h1,rfl⟩,fun k hk=>absurd hk (Nat.not_lt_zero _)⟩
 ·refine⟨g,o,cap,fun _=>h4,.inl (by rw[h1,h3]),fun k hk=>?_⟩
  obtain⟨e1,e2⟩:=z7a l k hk;rw[Nat.mul_comm k 2];exact⟨h5 _ _ e1,by rw[Nat.add_assoc];exact h5 _ _ e2⟩

theorem q6t (g:FuncId) (lb:Array Value) (q:Mk.At→Bool) (eg:∀ args w,(callFunc g args).run prog w=.ok (.enter g args) w) (l:List Mk.At) (v:Value) (K:Nat→Prop) (w:World) (hv:AtsV w K v l) (hK:∀ b,K b→b < w.heap.size) (hl:l.length≤33554432) (hq:j0b g lb q l w) :
  Calls prog 107 #[v,.func (.func g) #[] lb] w fun e w'=>∃ i:Int,e=.returned (.int .i64 i)∧(decide (0≤i)=l.any q)∧Below w.heap.size w w':=by
 obtain⟨b,o,cap,hKb,hv1,hcl⟩:=hv.at_
 have HQ:=Ld hq;have HC:=Ld hcl;clear hq hcl
 rcases hv1 with hv1 | ⟨ao,hv1,hl0⟩
 ·subst hv1
  go_enter func107,ntmps107;go_wp2_with fail
  go_loopw [8] (fun i wr=>∃ k:Nat,k≤l.length∧i=.int .i64 k∧Hid (l.any q=(l.drop k).any q)∧Hid (Below w.heap.size w wr)) (fun i _=>l.length - (intOf i).toNat)
  case atStart=>exact⟨0,Nat.zero_le _,rfl,rfl,Below.refl _ _⟩
  case round =>
   obtain⟨k,hk,rfl,HA,BL⟩:=hrel
   by_cases hlt:k < l.length
   ·have hb:b < w.heap.size:=hK b (hKb (by intro e;subst e;simp at hlt))
    obtain⟨c0,c1⟩:=HC.out k hlt;rw[← BL.out.cell (p:=⟨b,_,none⟩) hb] at c0 c1;have hcall:=HQ.out wr BL.out l[k] (List.getElem_mem _);have HD:Hid (l.any q=(q l[k] || (l.drop (k + 1)).any q)):=by show _=_;rw[HA.out,List.drop_eq_getElem_cons hlt];rfl
    generalize q l[k]=bb at hcall HD;unfold atV at hcall;have HCALL:=Ld hcall;clear hcall
    cases bb with
    | true =>
     go_wp2_with fail;refine HCALL.out.mono ?_;rintro e w1 ⟨rfl,hb1⟩;have BL1:=BL.out.trans (hb1.mono BL.out.size);go_wp2_with fail;go_ret;exact⟨k,rfl,by rw[HD.out,Bool.true_or];simp,BL1⟩
    | false =>
     go_wp2_with fail;refine HCALL.out.mono ?_;rintro e w1 ⟨rfl,hb1⟩;have BL1:=BL.out.trans (hb1.mono BL.out.size);go_wp2_with fail;go_roundw
     case rel=>exact⟨k + 1,by omega,by go_num,by show _=_;rw[HD.out,Bool.false_or],BL1⟩
     case measure=>simp[intOf];omega
   ·have HN:Hid (l.any q=false):=by show _=_;rw[HA.out,List.drop_of_length_le (by omega)];rfl
    have hkl:k=l.length:=by omega
    clear HA;go_wp2_with fail;go_ret;exact⟨-1,rfl,by rw[HN.out];rfl,BL.out⟩
 ·subst hl0
  subst hv1;clear HC hK;go_enter func107,ntmps107;go_wp2_with fail
  go_loopw [8] (fun i wr=>i=.int .i64 0∧wr=w) (fun _ _=>0)
  case atStart=>exact⟨rfl,rfl⟩
  case round =>
   obtain⟨rfl,rfl⟩:=hrel;go_wp2_with fail;go_ret;exact⟨-1,rfl,rfl,Below.refl _ _⟩
theorem z14 (g:FuncId) (lb:Array Value) (q:Mk.At→Bool) (eg:∀ args w,(callFunc g args).run prog w=.ok (.enter g args) w) (l:List Mk.At) (v:Value) (K:Nat→Prop) (w:World) (hv:AtsV w K v l) (hK:∀ b,K b→b < w.heap.size) (hl:l.length≤33554432) (hq:j0b g lb q l w) :
  Calls prog 76 #[v,.func (.func g) #[] lb] w fun e w'=>e=.returned (.bool (l.any q))∧Below w.heap.size w w':=by
 have HI:=Ld (q6t g lb q eg l v K w hv hK hl hq);clear hq hK hv;go_enter func76,ntmps76;go_wp2_with fail;refine HI.out.mono ?_;rintro e w1 ⟨i,rfl,hi,hb⟩;have HB:=Ld hb;have H2:=Ld hi;clear hb hi;go_wp2_with fail;go_ret;exact⟨Z8 H2.out,HB.out⟩

theorem val_lt (b:Nat) (hb:1≤b) (m:List UInt8) (h:∀ c ∈ m,Mk.Y4 b c=true):∀ l k,Mk.value b l < b ^ k→Mk.value b (l++m) < b ^ (k + m.length):=by
 induction m with
 | nil=>intro l k hk;simpa using hk
 | cons c t ih =>
  intro l k hk;have hc:=q2r b c (h c (by simp));have e:l++c :: t=(l++[c])++t:=by simp
  rw[e,List.length_cons,show k + (t.length + 1)=(k + 1) + t.length by omega];refine ih (fun x hx=>h x (by simp[hx])) _ _ ?_;rw[z2f,Nat.pow_succ]
  calc Mk.value b l * b + Mk.z1i c.toNat < Mk.value b l * b + b:=by omega
   _=(Mk.value b l + 1) * b:=by rw[Nat.add_mul,Nat.one_mul]
   _≤b ^ k * b:=Nat.mul_le_mul_right b hk
theorem z5g (q:UInt8→Bool) (l:List UInt8):∀ c ∈ l.takeWhile q,q c=true:=by
 induction l with
 | nil=>simp
 | cons c t ih =>
  intro x hx;rw[List.takeWhile_cons] at hx
  split at hx
  ·rcases List.mem_cons.1 hx with e | e
   ·rw[e];assumption
   ·exact ih x e
  ·cases hx
theorem q3p (b:Nat) (hb:1≤b) (l:List UInt8):Mk.value b (l.takeWhile (Mk.Y4 b)) < b ^ (l.takeWhile (Mk.Y4 b)).length:=by
 have h:=val_lt b hb (l.takeWhile (Mk.Y4 b)) (z5g _ _) [] 0 (by simp[Mk.value])
 simpa using h
theorem takeWhile_take (q:UInt8→Bool) (l:List UInt8):l.take (l.takeWhile q).length=l.takeWhile q:=by
 have h:=List.takeWhile_append_dropWhile (p:=q) (l:=l)
 conv=>lhs;arg 2;rw[← h]
 rw[List.take_left'];rfl
def numV:Option (Nat × Nat)→Value
 | none=>.tuple #[.int .i64 0,.int .i64 0]
 | some (p,n)=>.tuple #[.int .i64 p,.int .i64 n]

section
variable (l : List UInt8)
theorem q64 (h:((l.drop 2).takeWhile (Mk.Y4 10)).length=0∨7 < ((l.drop 2).takeWhile (Mk.Y4 10)).length):Mk.numAt 10 7 2 l=none:=by
 unfold Mk.numAt;simp only;rw[if_pos h]
theorem q83 (h:Mg.isAt 59 ((l.drop 2).drop ((l.drop 2).takeWhile (Mk.Y4 10)).length)=false):Mk.numAt 10 7 2 l=none:=by
 unfold Mk.numAt;simp only;rw[h];simp
theorem q65 (h:¬ (((l.drop 2).takeWhile (Mk.Y4 10)).length=0∨7 < ((l.drop 2).takeWhile (Mk.Y4 10)).length)) (h2:Mg.isAt 59 ((l.drop 2).drop ((l.drop 2).takeWhile (Mk.Y4 10)).length)=true) :
  Mk.numAt 10 7 2 l=some (Mk.value 10 ((l.drop 2).takeWhile (Mk.Y4 10)),2 + ((l.drop 2).takeWhile (Mk.Y4 10)).length + 1):=by
 unfold Mk.numAt;simp only;rw[if_neg h,if_pos h2]
end

section
variable (l : List UInt8)
theorem q66 (h:((l.drop 3).takeWhile (Mk.Y4 16)).length=0∨6 < ((l.drop 3).takeWhile (Mk.Y4 16)).length):Mk.numAt 16 6 3 l=none:=by
 unfold Mk.numAt;simp only;rw[if_pos h]
theorem q84 (h:Mg.isAt 59 ((l.drop 3).drop ((l.drop 3).takeWhile (Mk.Y4 16)).length)=false):Mk.numAt 16 6 3 l=none:=by
 unfold Mk.numAt;simp only;rw[h];simp
theorem q67 (h:¬ (((l.drop 3).takeWhile (Mk.Y4 16)).length=0∨6 < ((l.drop 3).takeWhile (Mk.Y4 16)).length)) (h2:Mg.isAt 59 ((l.drop 3).drop ((l.drop 3).takeWhile (Mk.Y4 16)).length)=true) :
  Mk.numAt 16 6 3 l=some (Mk.value 16 ((l.drop 3).takeWhile (Mk.Y4 16)),3 + ((l.drop 3).takeWhile (Mk.Y4 16)).length + 1):=by
 unfold Mk.numAt;simp only;rw[if_neg h,if_pos h2]
end
theorem j5b (s:ByteArray) (m:Nat) (h:m < s.size) (c:UInt8):Mg.isAt c (s.data.toList.drop m)=((s[m].toNat:Int) == (c.toNat:Int)):=by
 rw[X6 s m h];show (s[m] == c)=_;rw[Bool.eq_iff_iff,beq_iff_eq,beq_iff_eq];exact⟨fun e=>by rw[e],fun e=>UInt8.toNat_inj.1 (by omega)⟩

theorem q19 (s:ByteArray) (w:World) (hs:s.size≤2097152) (hg:Gl w) (hp:Mg.pre [38,35,120] s.data.toList=true) :
  Calls prog 147 #[.string s] w fun e w'=>e=.returned (numV (Mk.numAt 16 6 3 s.data.toList))∧Below w.heap.size w w':=by
 have hq:=z2o s [38,35,120];rw[hp] at hq;have HQ:=Ld hq;clear hq;have hr:(3:Int)≤s.size:=by
  have h:=congrArg List.length (show s.data.toList.take 3=_ from by simpa [Mg.pre] using hp);rw[List.length_take] at h;simp at h;omega
 obtain⟨r,hre⟩:∃ r,s.data.toList.drop 3=r:=⟨_,rfl⟩;have hrs:s.extract 3 s.size=st r:=by rw[← hre,Z4,List.take_of_length_le (by simp)]
 have hrz:(st r).size≤2097152:=by rw[y9,← hre];simp;omega
 have hbad:=q66 s.data.toList;have hno:=q84 s.data.toList;have hyes:=q67 s.data.toList;have hvd:=q3p 16 (by omega) r;have htw:=takeWhile_take (Mk.Y4 16) r;have hall:=z5g (Mk.Y4 16) r;have hle:(r.takeWhile (Mk.Y4 16)).length≤r.length:=List.Sublist.length_le (List.takeWhile_sublist _);rw[hre] at hbad hno hyes;obtain⟨ds,hds⟩:∃ ds,r.takeWhile (Mk.Y4 16)=ds:=⟨_,rfl⟩;have HD:=Ld (fun W hG=>q2x (st r) 16 (by omega) W hrz hG);rw[show (st r).data.toList=r from rfl,hds] at HD;rw[hds] at hbad hno hyes hvd htw hall hle;obtain⟨n,hn⟩:∃ n,ds.length=n:=⟨_,rfl⟩;rw[hn] at HD hbad hno hyes hvd htw hle;have hnz:n≤(st r).size:=by rw[y9];exact hle
 have HB:=Ld hbad;have HN:=Ld hno;have HY:=Ld hyes;have HV:=Ld hvd;have HT:=Ld htw;have HA:=Ld hall;have HL:=Ld hn;have HG:=Ld hg;have HRE:=Ld hre;clear hbad hno hyes hvd htw hall hn hds hre hg hle hp;go_enter func147,ntmps147;go_wp2_with fail;refine(HQ.out _).mono ?_;rintro e w1 ⟨rfl,rfl⟩;go_wp2_with fail;refine(HQ.out _).mono ?_;rintro e w1 ⟨rfl,rfl⟩;go_wp2_with fail;refine(HD.out _ HG.out).mono ?_;rintro e w1 ⟨rfl,hb1⟩
 by_cases h0:n=0
 ·have H:=Ld (HB.out (.inl h0))
  subst h0;go_wp2_with fail;go_ret2;exact⟨by rw[H.out];rfl,hb1⟩
 by_cases h7:6 < n
 ·have H:=Ld (HB.out (.inr h7))
  have k0:((n:Int) == 0)=false:=by rw[beq_eq_false_iff_ne];omega
  have k1:(6:Int) < n:=by omega
  clear h0 h7;go_wp2_with fail;go_ret2;exact⟨by rw[H.out];rfl,hb1⟩
 have k0:((n:Int) == 0)=false:=by rw[beq_eq_false_iff_ne];omega
 have k1:(n:Int)≤6:=by omega
 have k2:decide (6 < n)=false:=decide_eq_false h7
 rcases Nat.lt_or_ge n (st r).size with hlt | hge
 ·have k3:((n:Int) == ((st r).size:Int))=false:=by rw[beq_eq_false_iff_ne];omega
  have k4:(n == (st r).size)=false:=by rw[beq_eq_false_iff_ne];omega
  have hia:=j5b (st r) n hlt 59;rw[show (st r).data.toList=r from rfl] at hia
  cases hx:Mg.isAt 59 (r.drop n) with
  | false =>
   have H:=Ld (HN.out hx);have k5:(((st r)[n].toNat:Int) != 59)=true:=by rw[hx] at hia;rw[bne,← show _=(((st r)[n].toNat:Int) == 59) from hia];rfl
   clear hx hia h0 h7;go_wp2_with fail;go_ret2;exact⟨by rw[H.out];rfl,hb1⟩
  | true =>
   have H:=Ld (HY.out (by omega) hx);have k5:(((st r)[n].toNat:Int) != 59)=false:=by rw[hx] at hia;rw[bne,← show _=(((st r)[n].toNat:Int) == 59) from hia];rfl
   have hv:Mk.value 16 ds≤4294967295:=by
    have h1:=HV.out;have h2:16 ^ n≤16 ^ 6:=Nat.pow_le_pow_right (by omega) (by omega);have h3:16 ^ 6≤4294967295:=by decide
    omega
   have hne:ds ≠ []:=by intro e;have:=HL.out;rw[e] at this;simp at this;omega
   have HP:=Ld (fun W=>q9h (fun W=>q8c ds hne (by rw[HL.out];omega) HA.out hv W) W);have hds:(st r).extract 0 n=st ds:=by rw[Z4];simp only [List.drop_zero,Nat.sub_zero];exact congrArg st HT.out
   obtain⟨v,hve⟩:∃ v,Mk.value 16 ds=v:=⟨_,rfl⟩;rw[hve] at HP hv H;have k6:(v:Int)≤4294967295:=by omega
   clear hx hia h0 h7 hve hne hv;go_wp2_with fail;refine(HP.out _).mono ?_;rintro e w2 ⟨rfl,hb2⟩;go_wp2_with fail;go_ret2;exact⟨by rw[H.out];first | rfl | congr 4,hb1.trans (hb2.mono hb1.size)⟩
 ·have hnr:n=(st r).size:=by omega
  have H:=Ld (HN.out (by rw[List.drop_of_length_le (by rw[y9] at hge;exact hge)];rfl));have k3:((n:Int) == ((st r).size:Int))=true:=by rw[beq_iff_eq];omega
  have k4:(n == (st r).size)=true:=by rw[beq_iff_eq];omega
  clear h0 h7 hnr hge hnz;go_wp2_with fail;go_ret2;exact⟨by rw[H.out];rfl,hb1⟩

theorem q18 (s:ByteArray) (w:World) (hs:s.size≤2097152) (hg:Gl w) (hp0:Mg.pre [38,35,120] s.data.toList=false) (hp:Mg.pre [38,35] s.data.toList=true) :
  Calls prog 147 #[.string s] w fun e w'=>e=.returned (numV (Mk.numAt 10 7 2 s.data.toList))∧Below w.heap.size w w':=by
 have hq:=z2o s [38,35];rw[hp] at hq;have HQ:=Ld hq;clear hq;have hq0:=z2o s [38,35,120];rw[hp0] at hq0;have HQ0:=Ld hq0;clear hq0 hp0;have hr:(2:Int)≤s.size:=by
  have h:=congrArg List.length (show s.data.toList.take 2=_ from by simpa [Mg.pre] using hp);rw[List.length_take] at h;simp at h;omega
 obtain⟨r,hre⟩:∃ r,s.data.toList.drop 2=r:=⟨_,rfl⟩;have hrs:s.extract 2 s.size=st r:=by rw[← hre,Z4,List.take_of_length_le (by simp)]
 have hrz:(st r).size≤2097152:=by rw[y9,← hre];simp;omega
 have hbad:=q64 s.data.toList;have hno:=q83 s.data.toList;have hyes:=q65 s.data.toList;have hvd:=q3p 10 (by omega) r;have htw:=takeWhile_take (Mk.Y4 10) r;have hall:=z5g (Mk.Y4 10) r;have hle:(r.takeWhile (Mk.Y4 10)).length≤r.length:=List.Sublist.length_le (List.takeWhile_sublist _);rw[hre] at hbad hno hyes;obtain⟨ds,hds⟩:∃ ds,r.takeWhile (Mk.Y4 10)=ds:=⟨_,rfl⟩;have HD:=Ld (fun W hG=>q2x (st r) 10 (by omega) W hrz hG);rw[show (st r).data.toList=r from rfl,hds] at HD;rw[hds] at hbad hno hyes hvd htw hall hle;obtain⟨n,hn⟩:∃ n,ds.length=n:=⟨_,rfl⟩;rw[hn] at HD hbad hno hyes hvd htw hle;have hnz:n≤(st r).size:=by rw[y9];exact hle
 have HB:=Ld hbad;have HN:=Ld hno;have HY:=Ld hyes;have HV:=Ld hvd;have HT:=Ld htw;have HA:=Ld hall;have HL:=Ld hn;have HG:=Ld hg;have HRE:=Ld hre;clear hbad hno hyes hvd htw hall hn hds hre hg hle hp;go_enter func147,ntmps147;go_wp2_with fail;refine(HQ0.out _).mono ?_;rintro e w1 ⟨rfl,rfl⟩;go_wp2_with fail;refine(HQ.out _).mono ?_;rintro e w1 ⟨rfl,rfl⟩;go_wp2_with fail;refine(HD.out _ HG.out).mono ?_;rintro e w1 ⟨rfl,hb1⟩
 by_cases h0:n=0
 ·have H:=Ld (HB.out (.inl h0))
  subst h0;go_wp2_with fail;go_ret2;exact⟨by rw[H.out];rfl,hb1⟩
 by_cases h7:7 < n
 ·have H:=Ld (HB.out (.inr h7))
  have k0:((n:Int) == 0)=false:=by rw[beq_eq_false_iff_ne];omega
  have k1:(7:Int) < n:=by omega
  clear h0 h7;go_wp2_with fail;go_ret2;exact⟨by rw[H.out];rfl,hb1⟩
 have k0:((n:Int) == 0)=false:=by rw[beq_eq_false_iff_ne];omega
 have k1:(n:Int)≤7:=by omega
 have k2:decide (7 < n)=false:=decide_eq_false h7
 rcases Nat.lt_or_ge n (st r).size with hlt | hge
 ·have k3:((n:Int) == ((st r).size:Int))=false:=by rw[beq_eq_false_iff_ne];omega
  have k4:(n == (st r).size)=false:=by rw[beq_eq_false_iff_ne];omega
  have hia:=j5b (st r) n hlt 59;rw[show (st r).data.toList=r from rfl] at hia
  cases hx:Mg.isAt 59 (r.drop n) with
  | false =>
   have H:=Ld (HN.out hx);have k5:(((st r)[n].toNat:Int) != 59)=true:=by rw[hx] at hia;rw[bne,← show _=(((st r)[n].toNat:Int) == 59) from hia];rfl
   clear hx hia h0 h7;go_wp2_with fail;go_ret2;exact⟨by rw[H.out];rfl,hb1⟩
  | true =>
   have H:=Ld (HY.out (by omega) hx);have k5:(((st r)[n].toNat:Int) != 59)=false:=by rw[hx] at hia;rw[bne,← show _=(((st r)[n].toNat:Int) == 59) from hia];rfl
   have hv:Mk.value 10 ds≤4294967295:=by
    have h1:=HV.out;have h2:10 ^ n≤10 ^ 7:=Nat.pow_le_pow_right (by omega) (by omega);have h3:10 ^ 7≤4294967295:=by decide
    omega
   have hne:ds ≠ []:=by intro e;have:=HL.out;rw[e] at this;simp at this;omega
   have HP:=Ld (fun W=>q9h (fun W=>q8b ds hne (by rw[HL.out];omega) HA.out hv W) W);have hds:(st r).extract 0 n=st ds:=by rw[Z4];simp only [List.drop_zero,Nat.sub_zero];exact congrArg st HT.out
   obtain⟨v,hve⟩:∃ v,Mk.value 10 ds=v:=⟨_,rfl⟩;rw[hve] at HP hv H;have k6:(v:Int)≤4294967295:=by omega
   clear hx hia h0 h7 hve hne hv;go_wp2_with fail;refine(HP.out _).mono ?_;rintro e w2 ⟨rfl,hb2⟩;go_wp2_with fail;go_ret2;exact⟨by rw[H.out];first | rfl | congr 4,hb1.trans (hb2.mono hb1.size)⟩
 ·have hnr:n=(st r).size:=by omega
  have H:=Ld (HN.out (by rw[List.drop_of_length_le (by rw[y9] at hge;exact hge)];rfl));have k3:((n:Int) == ((st r).size:Int))=true:=by rw[beq_iff_eq];omega
  have k4:(n == (st r).size)=true:=by rw[beq_iff_eq];omega
  clear h0 h7 hnr hge hnz;go_wp2_with fail;go_ret2;exact⟨by rw[H.out];rfl,hb1⟩

theorem q1a (s:ByteArray) (w:World) (hp0:Mg.pre [38,35,120] s.data.toList=false) (hp:Mg.pre [38,35] s.data.toList=false) :
  Calls prog 147 #[.string s] w fun e w'=>e=.returned (numV none)∧w=w':=by
 have hq:=z2o s [38,35];rw[hp] at hq;have HQ:=Ld hq;have hq0:=z2o s [38,35,120];rw[hp0] at hq0;have HQ0:=Ld hq0;clear hq hq0 hp0 hp;go_enter func147,ntmps147;go_wp2_with fail;refine(HQ0.out _).mono ?_;rintro e w1 ⟨rfl,rfl⟩;go_wp2_with fail;refine(HQ.out _).mono ?_;rintro e w1 ⟨rfl,rfl⟩;go_wp2_with fail;go_ret2;exact⟨rfl,rfl⟩
theorem q5q (s:ByteArray) (w:World) (hs:s.size≤2097152) (hg:Gl w) :
  Calls prog 147 #[.string s] w fun e w'=>e=.returned (numV (Mk.numbered s.data.toList))∧Below w.heap.size w w':=by
 unfold Mk.numbered
 cases hp0:Mg.pre [38,35,120] s.data.toList with
 | true=>rw[if_pos rfl];exact q19 s w hs hg hp0
 | false =>
  rw[if_neg (by simp)]
  cases hp:Mg.pre [38,35] s.data.toList with
  | true=>rw[if_pos rfl];exact q18 s w hs hg hp0 hp
  | false =>
   rw[if_neg (by simp)];exact(q1a s w hp0 hp).mono fun e w' hh=>⟨hh.1,by rw[hh.2];exact Below.refl _ _⟩
end Go.Proofs.YtagleefekmdldaaGreatDoor
