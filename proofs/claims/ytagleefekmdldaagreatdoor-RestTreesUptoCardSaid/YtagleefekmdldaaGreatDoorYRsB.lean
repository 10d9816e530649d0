/- Contracts of the law's spoilTokens and spoilNodes: texts are put for texts, and numbers for numbers, in what is handed in alone. -/
import Derived.Test.YtagleefekmdldaaGreatDoorYMkTree13
import Derived.Test.YtagleefekmdldaaGreatDoorYMkTake
import Derived.Test.YtagleefekmdldaaGreatDoorYUrlD
import Derived.Test.YtagleefekmdldaaGreatDoorYMkTok7
import Derived.Test.YtagleefekmdldaaGreatDoorYMkTree2
set_option linter.unusedVariables false
set_option linter.unusedSimpArgs false
set_option maxHeartbeats 8000000
set_option maxRecDepth 100000
namespace Go.Proofs.YtagleefekmdldaaGreatDoor
open Go.Proofs.Tryz Go.RowKit
theorem z6s (l:List Mk.Tok) (v:Value) (K:Nat→Prop) (w:World) (hv:z1b w K v l) (hK:∀ b,K b→b < w.heap.size) :
  Calls prog 18 #[v] w fun e w'=>e=.returned (.tuple #[])∧Sp K w w':=by
 obtain⟨ao,cap,rfl,hlm,_⟩:=hv.at_
 unfold maxLen at hlm;have HV:=Ld hv;clear hv;go_enter func18,ntmps18;go_wp2_with fail
 go_loopw [2] (fun i wr=>∃ k:Nat,k≤l.length∧i=.int .i64 k∧Hid (Sp K w wr)) (fun i _=>l.length - (intOf i).toNat)
 case atStart=>exact⟨0,Nat.zero_le _,rfl,Sp.refl _ _⟩
 case round =>
  obtain⟨k,hk,rfl,SP⟩:=hrel
  by_cases hlt:k < l.length
  ·obtain⟨l2,hl2,hv2⟩:=SP.out.toks HV.out
   have hk2:k < l2.length:=by omega
   obtain⟨ao2,cap2,he,_,hat⟩:=hv2.at_
   obtain⟨g,o,aot,capt,hao2,hKg,hta,c0,c1,c2,c3⟩:=hat k l2[k] (List.getElem?_eq_getElem hk2);obtain rfl:ao=some ⟨g,o,none⟩:=by injection he with he;rw[he,hao2]
   clear he hao2;have f0:=hv2.frz k hk2;obtain⟨na,hna⟩:∃ n,n=l2[k].ats.length:=⟨_,rfl⟩;have HTA:=Ld hta;rw[← hna] at c2 HTA;obtain⟨_,_,hh,_,_,hnm⟩:=id hta;unfold maxLen at hnm;rw[← hna] at hnm;have HNA:=Ld hna;generalize l2[k].kind=kd at c0;clear hat hta hh hna c1 c3 hv2 hl2;have C0:=Ld (And.intro c0 f0);have C2:=Ld c2;clear c0 f0 c2;have hki:(k:Int) < l.length:=by omega
   have hk0:(0:Int)≤k:=by omega
   go_upto_block 2 with fail
   go_cut [] (fun wz=>Hid (Sp K wr wz))
   case first =>
    go_wp2_with fail
    go_loopw [3] (fun j wi=>∃ m:Nat,m≤na∧j=.int .i64 m∧Hid (Sp K wr wi)) (fun j _=>na - (intOf j).toNat)
    case atStart=>exact⟨0,Nat.zero_le _,rfl,Sp.refl _ _⟩
    case round =>
     obtain⟨m,hm,rfl,SI⟩:=hrel;have d2:=SI.out.sl _ _ _ _ C2.out
     by_cases hmt:m < na
     ·have hmi:(m:Int) < na:=by omega
      have hm0:(0:Int)≤m:=by omega
      obtain⟨a2,ha2,hav⟩:=SI.out.ats HTA.out;have hm2:m < a2.length:=by rw[ha2,← HNA.out];exact hmt
      obtain⟨ao3,cap3,he3,_,hat3⟩:=hav.get;obtain⟨ga,oa,hao3,hKa,x0,x1⟩:=hat3 m hm2;obtain rfl:aot=some ⟨ga,oa,none⟩:=by injection he3 with he3;rw[he3,hao3]
      clear he3 hao3;have y0:=hav.frz m hm2;generalize a2[m].n=sx at x0;have NX:=Ld (SI.out.trans (Sp.text hKa x0 ⟨#[63]⟩));clear hat3 hav ha2 x1 hm2;go_wp2_with fail;go_roundw
      case rel=>exact⟨m + 1,by omega,by go_num,NX⟩
      case measure=>simp[intOf];omega
     ·have hmi:¬ (m:Int) < na:=by omega
      go_wp2_with fail;go_meet
      case rel=>exact SI
   case rest =>
   have SI:=hcut;obtain⟨wb,hwb⟩:∃ z,z=wc:=⟨_,rfl⟩;subst hwb;obtain⟨kd2,d0⟩:=SI.out.nt _ _ C0.out.1;have e0:wb.frozen? ⟨g,o + k * 4,none⟩=false:=(SI.out.fz _).trans C0.out.2;have NX:=Ld (SP.out.trans (SI.out.trans (Sp.num hKg d0 (-7))));clear HTA C2;go_wp2_with fail;go_roundw
   case rel=>exact⟨k + 1,by omega,by go_num,NX⟩
   case measure=>simp[intOf];omega
  ·have hki:¬ (k:Int) < l.length:=by omega
   go_wp2_with fail
   first | go_ret2 | go_end0 | (simp only [Exit.inBlock,Exit.then];refine bodyPost_ret (results_none rfl _ _ _) rfl ?_) | refine bodyPost_ret (results_none rfl _ _ _) rfl ?_
   exact⟨rfl,SP.out⟩
end Go.Proofs.YtagleefekmdldaaGreatDoor
namespace Mk
theorem Fo.cnt_drop:∀ (f:Fo) (k:Nat),(f.drop k).cnt≤f.cnt
 | .nil,0=>Lr
 | .nil,k + 1=>Lr
 | .node _ _ _ _ _,0=>Lr
 | .node _ _ _ _ r,k + 1=>Nat.le_trans (Fo.cnt_drop r k) (by simp only [Fo.cnt];omega)
end Mk
namespace Go.Proofs.YtagleefekmdldaaGreatDoor
open Go.Proofs.Tryz Go.RowKit
theorem z4y (N:Nat):∀ (f:Mk.Fo),f.cnt < N→∀ (v:Value) (K:Nat→Prop) (w:World),FoV w K v f→(∀ b,K b→b < w.heap.size) →
  Calls prog 19 #[v] w fun e w'=>e=.returned (.tuple #[])∧Sp K w w':=by
 induction N with
 | zero=>intro f hN;omega
 | succ N ih =>
 intro f hN v K w hv hK;obtain⟨ao,cap,rfl,hlm,_⟩:=hv.get;unfold maxLen at hlm;have HV:=Ld hv;have IH:=Ld ih;clear hv ih;go_enter func19,ntmps19;go_wp2_with fail
 go_loopw [2] (fun i wr=>∃ k:Nat,k≤f.len∧i=.int .i64 k∧Hid (Sp K w wr)) (fun i _=>f.len - (intOf i).toNat)
 case atStart=>exact⟨0,Nat.zero_le _,rfl,Sp.refl _ _⟩
 case round =>
  obtain⟨k,hk,rfl,SP⟩:=hrel
  by_cases hlt:k < f.len
  ·obtain⟨f2,hl2,hn2,hv2⟩:=SP.out.fo HV.out
   have hk2:k < f2.len:=by omega
   obtain⟨n,a,t,kk,r,hd,_⟩:=Mk.Fo.z1x f2 k hk2;obtain⟨ao2,cap2,he,_,hat⟩:=hv2.get;obtain⟨g,o,aot,capt,aok,capk,hao2,hKg,c0,c1,c2,c3,hta,hvk⟩:=hat k n a t kk r hd;obtain rfl:ao=some ⟨g,o,none⟩:=by injection he with he;rw[he,hao2]
   clear he hao2;have f0:=hv2.frz k hk2;have hcn:kk.cnt < N:=by
    have h1:=Mk.Fo.cnt_drop f2 k;rw[hd] at h1;simp only [Mk.Fo.cnt] at h1;omega
   obtain⟨na,hna⟩:∃ n,n=a.length:=⟨_,rfl⟩;have HTA:=Ld hta;have HVK:=Ld hvk;obtain⟨nk,hnk⟩:∃ n,n=kk.len:=⟨_,rfl⟩;rw[← hna] at c1 HTA;rw[← hnk] at c3 HVK;obtain⟨_,_,hh,_,_,hnm⟩:=id hta;unfold maxLen at hnm;rw[← hna] at hnm;have HNA:=Ld hna;have HNK:=Ld hnk;have HCN:=Ld hcn;clear hat hta hh hna hnk c2 hv2 hvk hd hcn hn2 hl2 hk2;have C0:=Ld (And.intro c0 f0);have C1:=Ld c1;have C3:=Ld c3;clear c0 f0 c1 c3;have hki:(k:Int) < f.len:=by omega
   have hk0:(0:Int)≤k:=by omega
   go_upto_block 2 with fail
   go_cut [] (fun wz=>Hid (Sp K wr wz))
   case first =>
    go_wp2_with fail
    go_loopw [3] (fun j wi=>∃ m:Nat,m≤na∧j=.int .i64 m∧Hid (Sp K wr wi)) (fun j _=>na - (intOf j).toNat)
    case atStart=>exact⟨0,Nat.zero_le _,rfl,Sp.refl _ _⟩
    case round =>
     obtain⟨m,hm,rfl,SI⟩:=hrel;have d2:=SI.out.sl _ _ _ _ C1.out
     by_cases hmt:m < na
     ·have hmi:(m:Int) < na:=by omega
      have hm0:(0:Int)≤m:=by omega
      obtain⟨a2,ha2,hav⟩:=SI.out.ats HTA.out;have hm2:m < a2.length:=by rw[ha2,← HNA.out];exact hmt
      obtain⟨ao3,cap3,he3,_,hat3⟩:=hav.get;obtain⟨ga,oa,hao3,hKa,x0,x1⟩:=hat3 m hm2;obtain rfl:aot=some ⟨ga,oa,none⟩:=by injection he3 with he3;rw[he3,hao3]
      clear he3 hao3;have y0:=hav.frz m hm2;generalize a2[m].n=sx at x0;have NX:=Ld (SI.out.trans (Sp.text hKa x0 ⟨#[63]⟩));clear hat3 hav ha2 x1 hm2;go_wp2_with fail;go_roundw
      case rel=>exact⟨m + 1,by omega,by go_num,NX⟩
      case measure=>simp[intOf];omega
     ·have hmi:¬ (m:Int) < na:=by omega
      go_wp2_with fail;go_meet
      case rel=>exact SI
   case rest =>
   have SI:=hcut;obtain⟨wb,hwb⟩:∃ z,z=wc:=⟨_,rfl⟩;subst hwb;have d3:=SI.out.sl _ _ _ _ C3.out;have HCL:Hid (Calls prog 19 #[.slice aok nk capk] wb fun e w'=>e=.returned (.tuple #[])∧Sp K wb w'):=by
    obtain⟨k3,_,e2,e3⟩:=SI.out.fo HVK.out;exact IH.out k3 (by rw[e2];exact HCN.out) _ K wb e3 (fun b q=>by rw[SI.out.sz,SP.out.sz];exact hK b q)
   clear HTA C1 C3 IH HVK;go_wp2_with fail;refine HCL.out.mono ?_;rintro e w3 ⟨rfl,hs3⟩;have S3:=Ld (SI.out.trans hs3);clear HCL hs3 d3;obtain⟨s0,d0⟩:=S3.out.tx _ _ C0.out.1;have e0:w3.frozen? ⟨g,o + k * 4,none⟩=false:=(S3.out.fz _).trans C0.out.2;have NX:=Ld (SP.out.trans (S3.out.trans (Sp.text hKg d0 ⟨#[63]⟩)));go_wp2_with fail;go_roundw
   case rel=>exact⟨k + 1,by omega,by go_num,NX⟩
   case measure=>simp[intOf];omega
  ·have hki:¬ (k:Int) < f.len:=by omega
   go_wp2_with fail
   first | go_ret2 | go_end0 | (simp only [Exit.inBlock,Exit.then];refine bodyPost_ret (results_none rfl _ _ _) rfl ?_) | refine bodyPost_ret (results_none rfl _ _ _) rfl ?_
   exact⟨rfl,SP.out⟩
theorem z0e (n a b:Int) (w:World) :
  Calls prog 54 #[.int .i64 n,.int .i64 a,.int .i64 b] w fun e w'=>e=.returned (.bool (decide (a≤n∧n≤b)))∧w=w':=by
 go_enter func54,ntmps54;go_wp2
 all_goals (go_ret;refine⟨Z8 ?_,rfl⟩;simp[*];try omega)

theorem z9e (c:UInt8) (w:World) :
  Calls prog 32 #[.int .u8 c.toNat] w fun e w'=>e=.returned (.bool (Mg.isLet c))∧w=w':=by
 have hb:(c.toNat:Int)≤255:=by have:=c.toNat_lt;omega
 go_enter func32,ntmps32;go_wp2_with (go_at_call 54;refine(z0e _ _ _ _).mono ?_;rintro e w' ⟨rfl,rfl⟩)
 all_goals (go_ret;refine⟨Z8 ?_,rfl⟩;rw[Bool.eq_iff_iff,Mg.q1g];simp;try omega)

theorem z5v (s p:ByteArray) (k:Nat) (w:World) (hk:k≤s.size) (hs:s.size≤9223372036854775807) (hp:p.size≤9223372036854775807) :
  Calls prog 33 #[.string s,.int .i64 k,.string p] w fun e w'=>e=.returned (.bool (Mg.pre p.data.toList (s.data.toList.drop k)))∧w=w':=by
 go_enter func33,ntmps33;go_wp2
 ·have h:(p.size:Int)≤(s.size:Int) - (k:Int):=by assumption
  go_ret;refine⟨Z8 ?_,rfl⟩;rw[z6e,Lib.toList_data,Mg.pre,bs_len];simp
 ·have h:(s.size:Int) - (k:Int) < (p.size:Int):=by assumption
  go_ret;refine⟨Z8 ?_,rfl⟩;exact(Mg.q1p _ _ (by simp;omega)).symm

theorem z8u (s:ByteArray) (w:World) (hs:s.size≤67108864) :
  Calls prog 35 #[.string s] w fun e w'=>e=.returned (.string ⟨(Mg.fold s.data.toList).toArray⟩)∧Below w.heap.size w w':=by
 obtain⟨i0,hi,hz0,hz1,hz2⟩:=info_parts Tryz.infoB;go_enter func35,ntmps35;go_wp2;have hcv:=fun (W:World) (v:Value) (n:Nat) (l:List UInt8)=>z0z (P:=prog) W 85 9 5 underlying85 underlying5 underlying9 (base:=w.heap.size) (n:=n) (v:=v) l
 go_loopw [3,4] (fun v i wr=>∃ k:Nat,k≤s.size∧i=.int .i64 k∧wr.ownsRow w.heap.size 5 1 v k (bv (Mg.fold (s.data.toList.take k)))∧Below w.heap.size w wr) (fun _ i _=>s.size - (intOf i).toNat)
 case atStart=>exact⟨0,Nat.zero_le _,rfl,World.ownsRow_nil _ _ _ _,Below.refl _ _⟩
 case round =>
  obtain⟨k,hk,rfl,hown,hbl⟩:=hrel
  by_cases hlt:k < s.size
  ·have hb:(s[k].toNat:Int)≤255:=by have:=s[k].toNat_lt;omega
   have hsz:=hbl.size;have hl:=Mg.q7x s[k];have hf:Mg.fold (s.data.toList.take (k + 1))=Mg.fold (s.data.toList.take k)++[Mg.low s[k]]:=by rw[z5p s k hlt];simp[Mg.fold]
   by_cases hup:65≤(s[k].toNat:Int)∧(s[k].toNat:Int)≤90
   ·have hv:((Mg.low s[k]).toNat:Int)=(s[k].toNat:Int) + 32:=by rw[hl,if_pos (by omega)];omega
    have HV:=Ld hv;have HF:=Ld hf;clear hv hl hf hcv;go_wp2_with (first | (go_at_call 54;refine(z0e _ _ _ _).mono ?_;rintro e w' ⟨rfl,rfl⟩) | (at_builtin;refine wpList_append_own _ rfl _ _ 85 rfl w.heap.size 5 i0 (.int .u8 0) 1 1 underlying85 hi hz0 hz1 hz2 rfl (by decide) _ _ _ rfl (hown.alloc _) ⟨wr.heap.size,0,none⟩ 1 1 [.int .u8 ((s[k].toNat:Int) + 32)] rfl rfl (cell_one_new _ _ _) (one_cell _ rfl) (by unfold maxLen;omega) (by omega) (by simp;omega) ?_));intro v' w1 hown' hgrow _;have hbl1:=below_grown (hbl.alloc hsz _) (hown.alloc _) hgrow (by simp;omega);rw[← HV.out,← q7i,← HF.out] at hown';clear hown hgrow hbl;go_wp2;go_roundw
    case rel=>exact⟨k + 1,by omega,by go_num,hown',hbl1⟩
    case measure=>simp[intOf];omega
   ·have hv:((Mg.low s[k]).toNat:Int)=(s[k].toNat:Int):=by rw[hl,if_neg (by omega)]
    have HV:=Ld hv;have HF:=Ld hf;clear hv hl hf hcv;go_wp2_with (first | (go_at_call 54;refine(z0e _ _ _ _).mono ?_;rintro e w' ⟨rfl,rfl⟩) | (at_builtin;refine wpList_append_own _ rfl _ _ 85 rfl w.heap.size 5 i0 (.int .u8 0) 1 1 underlying85 hi hz0 hz1 hz2 rfl (by decide) _ _ _ rfl (hown.alloc _) ⟨wr.heap.size,0,none⟩ 1 1 [.int .u8 (s[k].toNat:Int)] rfl rfl (cell_one_new _ _ _) (one_cell _ rfl) (by unfold maxLen;omega) (by omega) (by simp;omega) ?_));intro v' w1 hown' hgrow _;have hbl1:=below_grown (hbl.alloc hsz _) (hown.alloc _) hgrow (by simp;omega);rw[← HV.out,← q7i,← HF.out] at hown';clear hown hgrow hbl;go_wp2;go_roundw
    case rel=>exact⟨k + 1,by omega,by go_num,hown',hbl1⟩
    case measure=>simp[intOf];omega
  ·rw[List.take_of_length_le (by simp;omega)] at hown
   have hc:=hcv wr u3 k _ hown;clear hcv;go_wp2;go_ret;exact⟨rfl,hbl⟩
end Go.Proofs.YtagleefekmdldaaGreatDoor
namespace Mk
theorem z1g (c:UInt8):white c=true↔(c.toNat:Int)=9∨(c.toNat:Int)=10∨(c.toNat:Int)=12∨(c.toNat:Int)=13∨(c.toNat:Int)=32 := by
  have q:∀ n:Nat, n < 256 → ((c == UInt8.ofNat n)=true↔(c.toNat:Int)=n) := fun n hn => by
    rw[beq_iff_eq, ← UInt8.toNat_inj]
    simp[UInt8.toNat_ofNat, Nat.mod_eq_of_lt hn]
    omega
  unfold white
  have q9 := q 9 (by decide); have q10 := q 10 (by decide); have q12 := q 12 (by decide); have q13 := q 13 (by decide); have q32 := q 32 (by decide)
  simp only [Bool.or_eq_true]
  rw[show (9:UInt8)=UInt8.ofNat 9 from rfl, show (10:UInt8)=UInt8.ofNat 10 from rfl, show (12:UInt8)=UInt8.ofNat 12 from rfl, show (13:UInt8)=UInt8.ofNat 13 from rfl, show (32:UInt8)=UInt8.ofNat 32 from rfl, q9, q10, q12, q13, q32]
  simp only [or_assoc]
  rfl
end Mk
namespace Go.Proofs.YtagleefekmdldaaGreatDoor
open Go.Proofs.Tryz Go.RowKit
theorem q3g (x y:List UInt8):st x ++ st y=st (x ++ y) := z19 (st x) (st y)
theorem j6f (s:List UInt8) (k:Nat) (h:k < s.length):(st s).extract k (k + 1)=st [s[k]] := by
  rw[Z4, X6 (st s) k h, Nat.add_sub_cancel_left]; rfl
theorem z2a (c:UInt8) (w:World):Calls prog 34 #[.int .u8 c.toNat] w fun e w' => e=.returned (.bool (Mk.white c)) ∧ w=w' := by
  have hb:(c.toNat:Int) ≤ 255 := by have := c.toNat_lt; omega
  go_enter func34, ntmps34
  go_wp2_with (go_at_call 54; refine(z0e _ _ _ _).mono ?_; rintro e w' ⟨rfl, rfl⟩)
  all_goals (go_ret; refine⟨Z8 ?_, rfl⟩; rw[Bool.eq_iff_iff, Mk.z1g]; simp; try omega)
def digV (b:Nat) (c:UInt8):Int := if Mk.Y4 b c=true then (Mk.z1i c.toNat:Int) else -1
theorem digV_eq (b:Nat) (c:UInt8):∃ n:Nat, (48 ≤ c.toNat ∧ c.toNat ≤ 57 → n=c.toNat - 48) ∧ (97 ≤ c.toNat ∧ c.toNat ≤ 122 → n=c.toNat - 87) ∧ (65 ≤ c.toNat ∧ c.toNat ≤ 90 → n=c.toNat - 55) ∧ (¬ (48 ≤ c.toNat ∧ c.toNat ≤ 57) → ¬ (97 ≤ c.toNat ∧ c.toNat ≤ 122) → ¬ (65 ≤ c.toNat ∧ c.toNat ≤ 90) → n=99) ∧ (n < b → digV b c=n) ∧ (¬ n < b → digV b c = -1) := by
  refine⟨Mk.z1i c.toNat, ?_, ?_, ?_, ?_, fun h => ?_, fun h => ?_⟩
  · intro h; unfold Mk.z1i; rw[if_pos h]
  · intro h; unfold Mk.z1i; rw[if_neg (by omega), if_pos h]
  · intro h; unfold Mk.z1i; rw[if_neg (by omega), if_neg (by omega), if_pos h]
  · intro h1 h2 h3; unfold Mk.z1i; rw[if_neg h1, if_neg h2, if_neg h3]
  · unfold digV; rw[if_pos (show Mk.Y4 b c=true from decide_eq_true h)]
  · unfold digV; rw[if_neg (by unfold Mk.Y4; rw[decide_eq_true_eq]; exact h)]
theorem rf_digit (c:UInt8) (b:Nat) (hb:b=10∨b=16) (w:World):Calls prog 84 #[.int .u8 c.toNat, .int .i64 b] w fun e w' => e=.returned (.int .i64 (digV b c)) ∧ w=w' := by
  have hc:(c.toNat:Int) ≤ 255 := by have := c.toNat_lt; omega
  have hd := fun b => Ld (digV_eq b c)
  rcases hb with rfl | rfl
  · go_enter func84, ntmps84
    go_wp2_with (go_at_call 54; refine(z0e _ _ _ _).mono ?_; rintro e w' ⟨rfl, rfl⟩)
    all_goals (go_ret; refine⟨z06 ?_, rfl⟩; obtain⟨n, d1, d2, d3, d4, d5, d6⟩ := (hd 10).out; by_cases hn:n < 10; · ((try rw[d5 hn]); (try omega))
               · ((try rw[d6 hn]); (try omega)))
  · go_enter func84, ntmps84
    go_wp2_with (go_at_call 54; refine(z0e _ _ _ _).mono ?_; rintro e w' ⟨rfl, rfl⟩)
    all_goals (go_ret; refine⟨z06 ?_, rfl⟩; obtain⟨n, d1, d2, d3, d4, d5, d6⟩ := (hd 16).out; by_cases hn:n < 16; · ((try rw[d5 hn]); (try omega))
               · ((try rw[d6 hn]); (try omega)))
theorem X9 (c:UInt8) (n:UInt8):(c=n ∧ ((c.toNat:Int) == (n.toNat:Int))=true)∨(c ≠ n ∧ ((c.toNat:Int) == (n.toNat:Int))=false) := by
  by_cases h:c=n
  · exact .inl ⟨h, by rw[h]; simp⟩
  · refine .inr ⟨h, ?_⟩
    rw[beq_eq_false_iff_ne]
    intro e
    exact h (UInt8.toNat_inj.1 (by omega))
end Go.Proofs.YtagleefekmdldaaGreatDoor
namespace Mk
def nxt (p:Bs):Bs→Option Nat
 | []=>if p=[] then some 0 else none
 | c :: t=>if Mg.pre p (c :: t)=true then some 0 else (nxt p t).map (· + 1)
theorem q69 (p:Bs):∀ l:Bs,l.length < p.length→nxt p l=none
 | [],h=>by
  unfold nxt;rw[if_neg (by rintro rfl;simp at h)]
 | c :: t,h=>by
  unfold nxt;rw[if_neg (by rw[Mg.q1p p _ h];decide),q69 p t (by rw[List.length_cons] at h;omega)];rfl
theorem z8h (p:Bs):∀ l:Bs,behind p l=(nxt p l).map fun i=>l.drop (i + p.length)
 | []=>by
  unfold behind nxt
  by_cases h:p=[]
  ·rw[if_pos h,if_pos h];simp
  ·rw[if_neg h,if_neg h];rfl
 | c :: t=>by
  unfold behind nxt
  by_cases h:Mg.pre p (c :: t)=true
  ·rw[if_pos h,if_pos h];simp
  ·rw[if_neg h,if_neg h,z8h p t]
   cases nxt p t with
   | none=>rfl
   | some i =>
    show some (t.drop (i + p.length))=some ((c :: t).drop (i + 1 + p.length));rw[show i + 1 + p.length=(i + p.length) + 1 by omega,List.drop_succ_cons]
theorem nxt_le (p:Bs):∀ (l:Bs) (i:Nat),nxt p l=some i→i + p.length≤l.length
 | [],i,h=>by
  unfold nxt at h
  split at h
  ·rename_i hp
   injection h with h;rw[← h,hp];exact Lr
  ·cases h
 | c :: t,i,h=>by
  unfold nxt at h
  split at h
  ·rename_i hp
   injection h with h;have:=z6u hp;rw[← h];omega
  ·cases hn:nxt p t with
   | none=>rw[hn] at h;cases h
   | some j =>
    rw[hn] at h;injection h with h;have h:j + 1=i:=h;have:=nxt_le p t j hn;rw[← h,List.length_cons];omega
def optInt:Option Nat→Int | none=>-1 | some i=>(i:Int)
theorem q82 (l:Bs) (k:Nat) (h:k < l.length) (b:Bool):z0o b (l.drop k)=((small l[k] || (!b && (Mg.Y4 l[k] || l[k] == 45))) && z0o false (l.drop (k + 1))):=by
 rw[List.drop_eq_getElem_cons h,z0o]
theorem digb_iff (c:UInt8):(Mg.Y4 c || c == 45)=true↔((48≤(c.toNat:Int)∧(c.toNat:Int)≤57)∨(c.toNat:Int)=45):=Mg.z0h (fun c=>(Mg.Y4 c || c == 45)=true↔((48≤(c.toNat:Int)∧(c.toNat:Int)≤57)∨(c.toNat:Int)=45)) (by decide +kernel) c
end Mk
namespace Go.Proofs.YtagleefekmdldaaGreatDoor
open Go.Proofs.Tryz Go.RowKit
theorem z7z (s p:List UInt8) (k:Nat) (w:World) (hk:k≤s.length) (hs:s.length≤1048576) (hp:p.length≤1048576) :
  Calls prog 37 #[.string (st s),.int .i64 k,.string (st p)] w fun e w'=>e=.returned (.int .i64 (Mk.optInt ((Mk.nxt p (s.drop k)).map (· + k))))∧w'=w:=by
 have e1:(st s).size=s.length:=y9 s;have e2:(st p).size=p.length:=y9 p;have hst:∀ l:List UInt8,(st l).toList=l:=fun l=>Lib.toList_data _
 have hsa:=fun j (hj:j≤s.length) W=>z5v (st s) (st p) j W (by rw[e1];exact hj) (by omega) (by omega)
 rw[show (st s).data.toList=s from rfl,show (st p).data.toList=p from rfl] at hsa;have HSA:=Ld hsa;clear hsa;go_enter func37,ntmps37;go_wp2_with fail
 go_loopw [1] (fun i wr=>∃ j:Nat,k≤j∧j≤s.length∧i=.int .i64 j∧Hid ((Mk.nxt p (s.drop k)).map (· + k)=(Mk.nxt p (s.drop j)).map (· + j))∧wr=w) (fun i _=>s.length + 1 - (intOf i).toNat)
 case atStart=>exact⟨k,Lr,hk,rfl,rfl,rfl⟩
 case round =>
  obtain⟨j,hkj,hj,rfl,HN,rfl⟩:=hrel
  by_cases hlt:j + p.length≤s.length
  ·have hlti:(j:Int) + p.length≤s.length:=by omega
   go_wp2_with fail;refine(HSA.out j hj _).mono ?_;rintro e w2 ⟨rfl,rfl⟩
   by_cases hpr:Mg.pre p (s.drop j)=true
   ·have HE:Hid ((Mk.nxt p (s.drop k)).map (· + k)=some j):=by
     show _=_;rw[HN.out]
     cases hd:s.drop j with
     | nil =>
      rw[hd] at hpr;have:=Mk.z6u hpr;have hp0:p=[]:=List.eq_nil_of_length_eq_zero (by simpa using this);subst hp0;show some (0 + j)=some j;rw[Nat.zero_add]
     | cons c t =>
      rw[hd] at hpr;unfold Mk.nxt;rw[if_pos hpr];show some (0 + j)=some j;rw[Nat.zero_add]
    clear HN;go_wp2_with fail;go_ret;exact⟨by rw[HE.out];rfl,rfl⟩
   ·have hpf:Mg.pre p (s.drop j)=false:=by simpa using hpr
    by_cases hje:j=s.length
    ·exfalso
     subst hje;have:p=[]:=List.eq_nil_of_length_eq_zero (by omega);subst this;simp[Mg.pre] at hpf
    have HE:Hid ((Mk.nxt p (s.drop k)).map (· + k)=(Mk.nxt p (s.drop (j + 1))).map (· + (j + 1))):=by
     show _=_;rw[HN.out,List.drop_eq_getElem_cons (show j < s.length by omega)];rw[List.drop_eq_getElem_cons (show j < s.length by omega)] at hpf;rw[Mk.nxt,if_neg (by rw[hpf];decide),Option.map_map]
     congr 1
     funext i
     show i + 1 + j=i + (j + 1);omega
    clear HN hpr;go_wp2_with fail;go_roundw
    case rel=>exact⟨j + 1,by omega,by omega,by go_num,HE.out,trivial⟩
    case measure=>simp[intOf];omega
  ·have hlti:¬ (j:Int) + p.length≤s.length:=by omega
   have HE:Hid ((Mk.nxt p (s.drop k)).map (· + k)=none):=by
    show _=_;rw[HN.out,Mk.q69 p _ (by rw[List.length_drop];omega)];rfl
   clear HN;go_wp2_with fail;go_ret;exact⟨by rw[HE.out];rfl,rfl⟩
theorem q1r (n lo hi:Int) (b:Bool) (h:decide (lo≤n∧n≤hi)=b) (W:World):Calls prog 54 #[.int .i64 n,.int .i64 lo,.int .i64 hi] W fun e w'=>e=.returned (.bool b)∧W=w':=by
 rw[← h];exact z0e n lo hi W
theorem q6m (s:List UInt8) (w:World) (hs:s.length≤9223372036854775807) :
  Calls prog 38 #[.string (st s)] w fun e w'=>e=.returned (.bool (Mk.isName s))∧w'=w:=by
 have e1:(st s).size=s.length:=y9 s;have hst:∀ l:List UInt8,(st l).toList=l:=fun l=>Lib.toList_data _
 by_cases hlen:1≤s.length∧s.length≤20
 ·have HN:Hid (Mk.isName s=Mk.z0o true s):=by
   show _=_;unfold Mk.isName;have:s ≠ []:=by rintro rfl;simp at hlen
   simp[this,hlen.2]
  have hl1:(1:Int)≤s.length:=by omega
  have hl2:(s.length:Int)≤20:=by omega
  go_enter func38,ntmps38;go_wp2_with (go_at_call 54;refine(z0e _ _ _ _).mono ?_;rintro e w' ⟨rfl,rfl⟩)
  all_goals (try (exfalso;omega))
  go_loopw [3] (fun i wr=>∃ k:Nat,k≤s.length∧i=.int .i64 k∧Hid (Mk.isName s=Mk.z0o (k == 0) (s.drop k))∧wr=w) (fun i _=>s.length - (intOf i).toNat)
  case atStart=>exact⟨0,Nat.zero_le _,rfl,HN.out,rfl⟩
  case round =>
   clear HN;obtain⟨k,hk,rfl,HN,rfl⟩:=hrel
   by_cases hlt:k < s.length
   ·have hoff:=Mk.q82 s k hlt (k == 0)
    obtain⟨x,hx⟩:∃ x,s[k]=x:=⟨_,rfl⟩;have hget:∀ h,(st s)[k]'h=x:=fun _=>hx
    rw[hx] at hoff;have hb:(x.toNat:Int)≤255:=by have:=x.toNat_lt;omega
    have HO:Hid (Mk.isName s=((Mk.small x || (!(k == 0) && (Mg.Y4 x || x == 45))) && Mk.z0o false (s.drop (k + 1)))):=by show _=_;rw[HN.out,hoff]
    have HS:=Ld (Mk.q6u x);have HD:=Ld (Mk.digb_iff x);clear hoff hx HN
    by_cases c1:Mk.small x=true
    ·have B1:=Ld (q1r (x.toNat:Int) 97 122 true (decide_eq_true (HS.out.1 c1)))
     have HR:Hid (Mk.isName s=Mk.z0o (k + 1 == 0) (s.drop (k + 1))):=by show _=_;rw[HO.out,c1];simp
     clear HO c1 HS HD;go_wp2_with fail;refine(B1.out _).mono ?_;rintro e w2 ⟨rfl,rfl⟩;go_wp2_with fail;go_roundw
     case rel=>exact⟨k + 1,by omega,by go_num,HR.out,trivial⟩
     case measure=>simp[intOf];omega
    ·have B1:=Ld (q1r (x.toNat:Int) 97 122 false (decide_eq_false (fun q=>c1 (HS.out.2 q))))
     have c1:Mk.small x=false:=by simpa using c1
     by_cases k0:k=0
     ·subst k0
      have HE:Hid (Mk.isName s=false):=by show _=_;rw[HO.out,c1];rfl
      clear HO c1 HS HD;go_wp2_with fail;refine(B1.out _).mono ?_;rintro e w2 ⟨rfl,rfl⟩;go_wp2_with fail;go_ret;exact⟨by rw[HE.out];rfl,rfl⟩
     have kb:((k:Int) == 0)=false:=by rw[beq_eq_false_iff_ne];omega
     have kb2:(k == 0)=false:=by rw[beq_eq_false_iff_ne];exact k0
     by_cases c2:(Mg.Y4 x || x == 45)=true
     ·have HR:Hid (Mk.isName s=Mk.z0o (k + 1 == 0) (s.drop (k + 1))):=by show _=_;rw[HO.out,c1,c2,kb2];simp
      rcases HD.out.1 c2 with q | q
      ·have B2:=Ld (q1r (x.toNat:Int) 48 57 true (decide_eq_true q))
       clear HO c1 HS HD c2 kb2 k0 q;go_wp2_with fail;refine(B1.out _).mono ?_;rintro e w2 ⟨rfl,rfl⟩;go_wp2_with fail;refine(B2.out _).mono ?_;rintro e w2 ⟨rfl,rfl⟩;go_wp2_with fail;go_roundw
       case rel=>exact⟨k + 1,by omega,by go_num,HR.out,trivial⟩
       case measure=>simp[intOf];omega
      ·have B2:=Ld (q1r (x.toNat:Int) 48 57 false (decide_eq_false (by omega)))
       have q2:((x.toNat:Int) == 45)=true:=by rw[beq_iff_eq];exact q
       clear HO c1 HS HD c2 kb2 k0 q;go_wp2_with fail;refine(B1.out _).mono ?_;rintro e w2 ⟨rfl,rfl⟩;go_wp2_with fail;refine(B2.out _).mono ?_;rintro e w2 ⟨rfl,rfl⟩;go_wp2_with fail;go_roundw
       case rel=>exact⟨k + 1,by omega,by go_num,HR.out,trivial⟩
       case measure=>simp[intOf];omega
     ·have HE:Hid (Mk.isName s=false):=by show _=_;rw[HO.out,c1,kb2,show (Mg.Y4 x || x == 45)=false by simpa using c2];rfl
      have q:=fun h=>c2 (HD.out.2 h)
      have B2:=Ld (q1r (x.toNat:Int) 48 57 false (decide_eq_false (fun h=>q (.inl h))));have q2:((x.toNat:Int) == 45)=false:=by rw[beq_eq_false_iff_ne];exact fun h=>q (.inr h)
      clear HO c1 HS HD c2 kb2 k0 q;go_wp2_with fail;refine(B1.out _).mono ?_;rintro e w2 ⟨rfl,rfl⟩;go_wp2_with fail;refine(B2.out _).mono ?_;rintro e w2 ⟨rfl,rfl⟩;go_wp2_with fail;go_ret;exact⟨by rw[HE.out];rfl,rfl⟩
   ·have hke:k=s.length:=by omega
    have HE:Hid (Mk.isName s=true):=by
     show _=_;rw[HN.out,List.drop_of_length_le (by omega)];rfl
    clear HN;go_wp2_with fail;go_ret;exact⟨by rw[HE.out];rfl,rfl⟩
 ·have HN:Hid (Mk.isName s=false):=by
   show _=_;unfold Mk.isName
   by_cases h0:s=[]
   ·simp[h0]
   ·have:¬ s.length≤20:=by
     intro q;exact hlen ⟨by cases s with | nil=>exact absurd rfl h0 | cons _ _=>simp,q⟩
    simp[this]
  have hlen':¬ (1≤(s.length:Int)∧(s.length:Int)≤20):=by omega
  clear hlen;go_enter func38,ntmps38;go_wp2_with (go_at_call 54;refine(z0e _ _ _ _).mono ?_;rintro e w' ⟨rfl,rfl⟩)
  all_goals (go_ret;exact⟨by rw[HN.out];rfl,rfl⟩)
end Go.Proofs.YtagleefekmdldaaGreatDoor
namespace Mk
end Mk
namespace Go.Proofs.YtagleefekmdldaaGreatDoor
open Go.RowKit
end Go.Proofs.YtagleefekmdldaaGreatDoor
