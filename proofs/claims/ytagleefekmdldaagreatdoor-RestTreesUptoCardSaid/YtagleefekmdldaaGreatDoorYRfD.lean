/- Contract of the reference's signAt. Condition: a text of at most 1048576 bytes. -/
import Derived.Test.YtagleefekmdldaaGreatDoorYRsB
import Derived.Test.YtagleefekmdldaaGreatDoorYRfC
import Derived.OwnWalk
import Derived.Test.YtagleefekmdldaaGreatDoorYMkHtOkF
import Derived.Test.YtagleefekmdldaaGreatDoorYMkTok2
set_option linter.unusedVariables false
set_option linter.unusedSimpArgs false
set_option maxHeartbeats 8000000
set_option maxRecDepth 100000
namespace Mk
theorem q73 (b:Nat) (hb:1≤b) (hb2:b≤16) (l:Bs) (j:Nat) (h:Runs (Y4 b) l j) (hj:j≤8):value b (l.take j) < 4294967296:=by
 have h1:=Go.Proofs.YtagleefekmdldaaGreatDoor.val_lt b hb (l.take j) h.2 [] 0 (by show 0 < b ^ 0;rw[Nat.pow_zero];decide);have hl:(l.take j).length=j:=by rw[List.length_take];exact Nat.min_eq_left h.1
 rw[List.nil_append,Nat.zero_add,hl] at h1;refine Nat.lt_of_lt_of_le h1 ?_;refine Nat.le_trans (Nat.pow_le_pow_left hb2 j) ?_;exact Nat.le_trans (Nat.pow_le_pow_right (by decide) hj) (by decide)
end Mk
namespace Go.Proofs.YtagleefekmdldaaGreatDoor
open Go.Proofs.Tryz Go.RowKit
theorem j6g (s:List UInt8) (k:Nat) (w:World) (hk:k≤s.length) (hs:s.length≤1048576) :
  Calls prog 53 #[.string (st s),.int .i64 k] w fun e w'=>e=.returned (.tuple #[.string (st (Mk.z3w (s.drop k)).1),.int .i64 (Mk.z3w (s.drop k)).2.1,.bool (Mk.z3w (s.drop k)).2.2])∧Below w.heap.size w w':=by
 have e1:(st s).size=s.length:=y9 s;have hst:∀ l:List UInt8,(st l).toList=l:=fun l=>Lib.toList_data _
 have hsa:∀ (p:List UInt8) (b:Bool),p.length≤8→Mg.pre p (s.drop k)=b→∀ W,Calls prog 33 #[.string (st s),.int .i64 k,.string (st p)] W fun e w'=>e=.returned (.bool b)∧W=w':=fun p b hp hb W=>by
  have:=z5v (st s) (st p) k W (by rw[e1];exact hk) (by omega) (by rw[y9];omega)
  rwa [show (st s).data.toList=s from rfl,show (st p).data.toList=p from rfl,hb] at this
 obtain⟨L,hL⟩:∃ L,s.drop k=L:=⟨_,rfl⟩;rw[hL] at hsa ⊢;obtain⟨b1,h1⟩:∃ b,Mg.pre [38,97,109,112,59] L=b:=⟨_,rfl⟩;obtain⟨b2,h2⟩:∃ b,Mg.pre [38,108,116,59] L=b:=⟨_,rfl⟩;obtain⟨b3,h3⟩:∃ b,Mg.pre [38,103,116,59] L=b:=⟨_,rfl⟩;obtain⟨b4,h4⟩:∃ b,Mg.pre [38,113,117,111,116,59] L=b:=⟨_,rfl⟩;obtain⟨b5,h5⟩:∃ b,Mg.pre [38,97,112,111,115,59] L=b:=⟨_,rfl⟩;obtain⟨b6,h6⟩:∃ b,Mg.pre [38,35] L=b:=⟨_,rfl⟩;obtain⟨b7,h7⟩:∃ b,Mg.pre [38,35,120] L=b:=⟨_,rfl⟩;have H1:=Ld (hsa [38,97,109,112,59] b1 (by decide) h1);have H2:=Ld (hsa [38,108,116,59] b2 (by decide) h2);have H3:=Ld (hsa [38,103,116,59] b3 (by decide) h3);have H4:=Ld (hsa [38,113,117,111,116,59] b4 (by decide) h4);have H5:=Ld (hsa [38,97,112,111,115,59] b5 (by decide) h5);have H6:=Ld (hsa [38,35] b6 (by decide) h6);have H7:=Ld (hsa [38,35,120] b7 (by decide) h7);have hnm:Mk.named L=if b1=true then some (38,5) else if b2=true then some (60,4) else if b3=true then some (62,4) else if b4=true then some (34,6) else if b5=true then some (39,6) else none:=by
  unfold Mk.named;rw[h1,h2,h3,h4,h5]
 have hlen2:b6=true→k + 2≤s.length:=fun h=>by
  have:=Mk.z6u (h6.trans h);rw[← hL,List.length_drop] at this;simp at this;omega
 have hlen3:b7=true→k + 3≤s.length:=fun h=>by
  have:=Mk.z6u (h7.trans h);rw[← hL,List.length_drop] at this;simp at this;omega
 have HNM:=Ld hnm;have HP6:=Ld h6;have HP7:=Ld h7;have HL2:=Ld hlen2;have HL3:=Ld hlen3;have HLL:=Ld hL;clear hsa h1 h2 h3 h4 h5 h6 h7 hnm hlen2 hlen3 hL;go_enter func53,ntmps53;go_wp2_with fail;refine(H1.out _).mono ?_;rintro e w2 ⟨rfl,hw⟩;subst hw
 cases b1 with
 | true =>
  have HV:=Ld (Mk.z3d L 38 5 (by decide) HNM.out);clear HNM;go_wp2_with fail
  go_ret3
  exact⟨by rw[HV.out];rfl,Below.refl _ _⟩
 | false =>
 go_wp2_with fail;refine(H2.out _).mono ?_;rintro e w2 ⟨rfl,hw⟩;subst hw
 cases b2 with
 | true =>
  have HV:=Ld (Mk.z3d L 60 4 (by decide) HNM.out);clear HNM;go_wp2_with fail
  go_ret3
  exact⟨by rw[HV.out];rfl,Below.refl _ _⟩
 | false =>
 go_wp2_with fail;refine(H3.out _).mono ?_;rintro e w2 ⟨rfl,hw⟩;subst hw
 cases b3 with
 | true =>
  have HV:=Ld (Mk.z3d L 62 4 (by decide) HNM.out);clear HNM;go_wp2_with fail
  go_ret3
  exact⟨by rw[HV.out];rfl,Below.refl _ _⟩
 | false =>
 go_wp2_with fail;refine(H4.out _).mono ?_;rintro e w2 ⟨rfl,hw⟩;subst hw
 cases b4 with
 | true =>
  have HV:=Ld (Mk.z3d L 34 6 (by decide) HNM.out);clear HNM;go_wp2_with fail
  go_ret3
  exact⟨by rw[HV.out];rfl,Below.refl _ _⟩
 | false =>
 go_wp2_with fail;refine(H5.out _).mono ?_;rintro e w2 ⟨rfl,hw⟩;subst hw
 cases b5 with
 | true =>
  have HV:=Ld (Mk.z3d L 39 6 (by decide) HNM.out);clear HNM;go_wp2_with fail
  go_ret3
  exact⟨by rw[HV.out];rfl,Below.refl _ _⟩
 | false =>
 have HN0:Hid (Mk.named L=none):=HNM.out;clear HNM H1 H2 H3 H4 H5;go_wp2_with fail;refine(H6.out _).mono ?_;rintro e w2 ⟨rfl,hw⟩;subst hw
 cases b6 with
 | false =>
  have HV:=Ld (Mk.z4f L HN0.out (Mk.q87 L HP6.out));clear HN0 HP6 HP7;go_wp2_with fail
  go_ret3
  exact⟨by rw[HV.out];rfl,Below.refl _ _⟩
 | true =>
 have hk2:=HL2.out rfl;clear H6;go_wp2_with fail;refine(H7.out _).mono ?_;rintro e w2 ⟨rfl,hw⟩;subst hw;go_upto_if 41 with fail
 go_cut [7,8,9] (fun Bv Mv Fv wx=>∃ B M A:Nat,Bv=.int .i64 B∧Mv=.int .i64 M∧Fv=.int .i64 ((k + A:Nat):Int)∧k + A≤s.length∧A≤3∧M≤7∧(B=10∨B=16)∧Hid (Mk.numbered L=Mk.numAt B M A L)∧w=wx)
 case first =>
  cases b7 with
  | true =>
   have hk3:=HL3.out rfl;have HV:=Ld (Mk.q86 L HP7.out);clear HN0 HP6 HP7 HL2 HL3 HLL;go_wp2_with fail;go_meet
   case rel=>exact⟨16,6,3,rfl,rfl,by go_num,hk3,by decide,by decide,.inr rfl,HV,rfl⟩
  | false =>
   have HV:=Ld (Mk.q85 L HP7.out HP6.out);clear HN0 HP6 HP7 HL2 HL3 HLL;go_wp2_with fail;go_meet
   case rel=>exact⟨10,7,2,rfl,rfl,by go_num,hk2,by decide,by decide,.inl rfl,HV,rfl⟩
 case rest =>
  obtain⟨B,M,A,rfl,rfl,rfl,hF,hA,hM,hB,HNA,hwc⟩:=hcut;subst hwc;clear H7 HP6 HP7 HL2 HL3 hk2;have hB1:1≤B:=by omega
  have hB2:B≤16:=by omega
  obtain⟨R,hR⟩:∃ R,L.drop A=R:=⟨_,rfl⟩;have hRs:s.drop (k + A)=R:=by rw[← hR,← HLL.out,List.drop_drop]
  have hRl:R.length=s.length - (k + A):=by rw[← hRs,List.length_drop]
  obtain⟨F,hFe⟩:∃ F,k + A=F:=⟨_,rfl⟩;rw[hFe] at hF hRs hRl ⊢;have hget:∀ (j:Nat) (h:j < R.length),R[j]=s[F + j]'(by omega):=fun j h=>by
   have:∀ (T:List UInt8) (e:s.drop F=T) (h:j < T.length),T[j]=s[F + j]'(by rw[← e,List.length_drop] at h;omega):=by
    intro T e h;subst e;simp
   exact this R hRs h
  have HGET:=Ld hget;have HRD:=Ld hR;have HFE:=Ld hFe;clear hget hR hRs HLL hFe
  go_upto_block 1 with fail
  go_cut [10,11] (fun Nv Tv wx=>∃ j:Nat,j≤R.length∧j≤M + 1∧Nv=.int .i64 (Mk.value B (R.take j))∧Tv=.int .i64 ((F + j:Nat):Int)∧Hid (Mk.Runs (Mk.Y4 B) R j)∧Hid (j=R.length∨(∃ q:j < R.length,Mk.Y4 B R[j]=false)∨M < j)∧w=wx)
  case first =>
   go_wp2_with fail
   go_loopw [10,11] (fun Nv Tv wx=>∃ j:Nat,j≤R.length∧j≤M + 1∧Nv=.int .i64 (Mk.value B (R.take j))∧Tv=.int .i64 ((F + j:Nat):Int)∧Hid (Mk.Runs (Mk.Y4 B) R j)∧w=wx) (fun _ Tv _=>s.length - (intOf Tv).toNat)
   case atStart=>exact⟨0,Nat.zero_le _,Nat.zero_le _,rfl,rfl,Mk.Runs.zero _ _,rfl⟩
   case round =>
    obtain⟨j,hj,hjM,rfl,rfl,HRU,rfl⟩:=hrel
    by_cases hlt:j < R.length
    ·have hg:=HGET.out j hlt
     obtain⟨x,hx⟩:∃ x,s[F + j]'(by omega)=x:=⟨_,rfl⟩;have hgs:∀ h,(st s)[F + j]'h=x:=fun _=>hx
     rw[hx] at hg;have hlti:(F:Int) + j < s.length:=by omega
     have hD:=fun W=>rf_digit x B hB W
     obtain⟨d,hd⟩:∃ d,Mk.Y4 B x=d:=⟨_,rfl⟩;have HDV:Hid (digV B x=if d=true then (Mk.z1i x.toNat:Int) else -1):=by show _=_;unfold digV;rw[hd]
     have hvr:=Mk.q73 B hB1 hB2 R j HRU.out (by omega);have hvt:=Mk.j3d B R j hlt;rw[hg] at hvt;have hq36:Mk.z1i x.toNat≤99:=by unfold Mk.z1i;(repeat' split) <;> omega
     have hb9:=x.toNat_lt;have hb8:(x.toNat:Int) < 256:=by omega
     cases d with
     | false =>
      rw[show digV B x = -1 from HDV.out] at hD;have HD:=Ld hD;clear hD HDV;have HE:Hid (j=R.length∨(∃ q:j < R.length,Mk.Y4 B R[j]=false)∨M < j):=.inr (.inl ⟨hlt,by rw[hg];exact hd⟩);clear hx hg hd hvt HGET;go_wp2_with fail;refine(HD.out _).mono ?_;rintro e w2 ⟨rfl,hw⟩;subst hw;go_wp2_with fail;go_meet
      case rel=>exact⟨j,hj,hjM,rfl,rfl,HRU.out,HE,(by trivial)⟩
     | true =>
      rw[show digV B x=(Mk.z1i x.toNat:Int) from HDV.out] at hD;have HD:=Ld hD;clear hD HDV
      by_cases hm:j≤M
      ·have hmi:(F:Int) + j - F≤M:=by omega
       have HRU2:Hid (Mk.Runs (Mk.Y4 B) R (j + 1)):=HRU.out.succ hlt (by rw[hg];exact hd);have HVT:=Ld hvt;generalize Mk.value B (R.take j)=N at hvr HVT ⊢;generalize Mk.z1i x.toNat=dg at hq36 HD HVT;clear hx hg hd hvt HGET HRU;have hm0:(0:Int)≤(N:Int) * (B:Int):=Int.mul_nonneg (Int.natCast_nonneg _) (Int.natCast_nonneg _);have hm1:(N:Int) * (B:Int)≤4294967296 * 16:=by
        have:=Nat.mul_le_mul (Nat.le_of_lt hvr) hB2;rw[← Int.natCast_mul];omega
       clear hB;go_wp2_with fail;refine(HD.out _).mono ?_;rintro e w2 ⟨rfl,hw⟩;subst hw;go_wp2_with fail;refine(HD.out _).mono ?_;rintro e w2 ⟨rfl,hw⟩;subst hw;go_wp2_with fail;go_roundw
       case rel=>exact⟨j + 1,by omega,by omega,by rw[HVT.out];first | go_num | (push_cast;rfl),by go_num,HRU2,(by trivial)⟩
       case measure=>simp[intOf];omega
      ·have hmi:¬ (F:Int) + j - F≤M:=by omega
       have HE:Hid (j=R.length∨(∃ q:j < R.length,Mk.Y4 B R[j]=false)∨M < j):=.inr (.inr (by omega));clear hx hg hd hvt HGET;generalize Mk.z1i x.toNat=dg at hq36 HD;go_wp2_with fail;refine(HD.out _).mono ?_;rintro e w2 ⟨rfl,hw⟩;subst hw;go_wp2_with fail;go_meet
       case rel=>exact⟨j,hj,hjM,rfl,rfl,HRU.out,HE,(by trivial)⟩
    ·have hlti:¬ (F:Int) + j < s.length:=by omega
     have HE:Hid (j=R.length∨(∃ q:j < R.length,Mk.Y4 B R[j]=false)∨M < j):=.inl (by omega);clear HGET;go_wp2_with fail;go_meet
     case rel=>exact⟨j,hj,hjM,rfl,rfl,HRU.out,HE,(by trivial)⟩
  case rest =>
   obtain⟨j,hj,hjM,rfl,rfl,HRU,HE,hwc⟩:=hcut;subst hwc;have hna:=Mk.j5l B M A j L (by rw[HRD.out];exact HRU.out) (by rw[HRD.out];exact HE.out);rw[HRD.out,← HNA.out] at hna;have hvr:=Mk.q73 B hB1 hB2 R j HRU.out (by omega);clear HRU HE HNA HRD;generalize Mk.value B (R.take j)=N at hna hvr ⊢;have hTF:∀ T:Nat,T=F + j→True:=fun _ _=>trivial
   clear hTF
   by_cases j0:j=0
   ·have hq:((F:Int) + j == (F:Int))=true:=by rw[beq_iff_eq];omega
    rw[if_pos (.inl j0)] at hna;have HV:=Ld (Mk.z4f L HN0.out hna);clear hna j0 HGET HN0;go_wp2_with fail
    go_ret3
    exact⟨by rw[HV.out];rfl,Below.refl _ _⟩
   have hq:((F:Int) + j == (F:Int))=false:=by rw[beq_eq_false_iff_ne];omega
   by_cases jM:M < j
   ·have hq2:(M:Int) < (F:Int) + j - F:=by omega
    rw[if_pos (.inr jM)] at hna;have HV:=Ld (Mk.z4f L HN0.out hna);clear hna HGET HN0;go_wp2_with fail
    go_ret3
    exact⟨by rw[HV.out];rfl,Below.refl _ _⟩
   have hq2:¬ (M:Int) < (F:Int) + j - F:=by omega
   rw[if_neg (by omega)] at hna
   by_cases jl:j < R.length
   ·have hg:=HGET.out j jl
    obtain⟨x,hx⟩:∃ x,s[F + j]'(by omega)=x:=⟨_,rfl⟩;have hgs:∀ h,(st s)[F + j]'h=x:=fun _=>hx
    rw[hx] at hg;have hq3:((F:Int) + j == (s.length:Int))=false:=by rw[beq_eq_false_iff_ne];omega
    have hb9:=x.toNat_lt;have hia:Mg.isAt 59 (R.drop j)=(x == 59):=by rw[List.drop_eq_getElem_cons jl,hg];rfl
    rw[hia] at hna
    rcases X9 x 59 with ⟨hx5,hx6⟩ | ⟨hx5,hx6⟩
    ·rw[if_pos (by rw[hx5];rfl)] at hna
     have hsn:=Mk.j6j L N (A + j + 1) (by omega) HN0.out hna;have hx7:((x.toNat:Int) == 59)=true:=hx6;have hx8:((x.toNat:Int) != 59)=false:=by rw[bne,hx7];rfl
     have HSN:=Ld hsn;have hAF:=HFE.out;have HSC:=Ld (z5w N);clear hna hsn hx hg hia HGET HN0 hx5 hx6
     by_cases n0:N=0
     ·have hn0:((N:Int) == 0)=true:=by rw[beq_iff_eq];omega
      have HSF:Hid (Mk.scalar N=false):=by show _=_;rw[HSC.out,n0];rfl
      clear HSC n0;go_wp2_with fail
      go_ret3
      refine⟨?_,Below.refl _ _⟩;rw[HSN.out,HSF.out];have hv:(F:Int) + j + 1 - k=((A + j + 1:Nat):Int):=by omega
      show Ending.returned (Value.tuple #[Value.string (st [239,191,189]),Value.int .i64 ((F:Int) + j + 1 - k),Value.bool false])=_;rw[hv];rfl
     have hn0:((N:Int) == 0)=false:=by rw[beq_eq_false_iff_ne];omega
     by_cases n1:55296≤N∧N≤57343
     ·have HSF:Hid (Mk.scalar N=false):=by show _=_;rw[HSC.out];simp;omega
      have HBT:Hid (∀ W,Calls prog 54 #[.int .i64 N,.int .i64 55296,.int .i64 57343] W fun e w'=>e=.returned (.bool true)∧W=w'):=fun W=>by
       have:=z0e N 55296 57343 W
       rwa [show decide ((55296:Int)≤N∧(N:Int)≤57343)=true from decide_eq_true (by omega)] at this
      clear HSC;go_wp2_with fail;refine(HBT.out _).mono ?_;rintro e w2 ⟨rfl,hw⟩;subst hw;go_wp2_with fail
      go_ret3
      refine⟨?_,Below.refl _ _⟩;rw[HSN.out,HSF.out];have hv:(F:Int) + j + 1 - k=((A + j + 1:Nat):Int):=by omega
      show Ending.returned (Value.tuple #[Value.string (st [239,191,189]),Value.int .i64 ((F:Int) + j + 1 - k),Value.bool false])=_;rw[hv];rfl
     have HBT:Hid (∀ W,Calls prog 54 #[.int .i64 N,.int .i64 55296,.int .i64 57343] W fun e w'=>e=.returned (.bool false)∧W=w'):=fun W=>by
      have:=z0e N 55296 57343 W
      rwa [show decide ((55296:Int)≤N∧(N:Int)≤57343)=false from decide_eq_false (by omega)] at this
     by_cases n2:1114111 < N
     ·have HSF:Hid (Mk.scalar N=false):=by show _=_;rw[HSC.out];simp;omega
      have hn2:(1114111:Int) < N:=by omega
      clear HSC;go_wp2_with fail;refine(HBT.out _).mono ?_;rintro e w2 ⟨rfl,hw⟩;subst hw;go_wp2_with fail
      go_ret3
      refine⟨?_,Below.refl _ _⟩;rw[HSN.out,HSF.out];have hv:(F:Int) + j + 1 - k=((A + j + 1:Nat):Int):=by omega
      show Ending.returned (Value.tuple #[Value.string (st [239,191,189]),Value.int .i64 ((F:Int) + j + 1 - k),Value.bool false])=_;rw[hv];rfl
     have HST:Hid (Mk.scalar N=true):=by show _=_;rw[HSC.out];simp;omega
     have hn2:¬ (1114111:Int) < N:=by omega
     have HRW:=Ld (fun W=>rf_row N W HST.out);clear HSC;go_wp2_with fail;refine(HBT.out _).mono ?_;rintro e w2 ⟨rfl,hw⟩;subst hw;go_wp2_with fail;refine(HRW.out _).mono ?_;rintro e w2 ⟨rfl,hb2⟩;have HB2:=Ld hb2;clear hb2;go_wp2_with fail
     go_ret3
     refine⟨?_,HB2.out⟩;rw[HSN.out,HST.out];have hv:(F:Int) + j + 1 - k=((A + j + 1:Nat):Int):=by omega
     show Ending.returned (Value.tuple #[Value.string (st (Mk.utf8 N)),Value.int .i64 ((F:Int) + j + 1 - k),Value.bool true])=_;rw[hv];rfl
    ·rw[if_neg (by simpa using hx5)] at hna
     have HV:=Ld (Mk.z4f L HN0.out hna);have hx7:((x.toNat:Int) == 59)=false:=hx6;have hx8:((x.toNat:Int) != 59)=true:=by rw[bne,hx7];rfl
     clear hna hx hg hia HGET HN0 hx5 hx6;go_wp2_with fail
     go_ret3
     exact⟨by rw[HV.out];rfl,Below.refl _ _⟩
   ·have hq3:((F:Int) + j == (s.length:Int))=true:=by rw[beq_iff_eq];omega
    rw[if_neg (by rw[List.drop_of_length_le (by omega)];decide)] at hna;have HV:=Ld (Mk.z4f L HN0.out hna);clear hna HGET HN0;go_wp2_with fail
    go_ret3
    exact⟨by rw[HV.out];rfl,Below.refl _ _⟩
end Go.Proofs.YtagleefekmdldaaGreatDoor
namespace Mk
theorem q68 {b m a:Nat} {l:Bs} {p n:Nat} (h:numAt b m a l=some (p,n)):n ≠ 0:=by
 unfold numAt at h;simp only at h
 split at h
 ·cases h
 ·split at h
  ·injection h with h;injection h with h1 h2;omega
  ·cases h
theorem j5j {l:Bs} {c:UInt8} {n:Nat} (h:named l=some (c,n)):n ≠ 0:=by
 unfold named at h
 repeat' split at h
 all_goals first | (injection h with h;injection h with h1 h2;omega) | cases h
theorem sign_zero (l:Bs) (h:(sign l).2.1=0):sign l=([38],0,false):=by
 unfold sign at h ⊢
 cases hn:named l with
 | some x=>obtain⟨c,n⟩:=x;rw[hn] at h;exact absurd h (j5j hn)
 | none =>
  rw[hn] at h
  cases hm:numbered l with
  | none=>rfl
  | some x =>
   obtain⟨p,n⟩:=x;rw[hm] at h;exfalso;have hp:n ≠ 0:=by
    unfold numbered at hm
    split at hm
    ·exact q68 hm
    ·split at hm
     ·exact q68 hm
     ·cases hm
   simp only at h
   split at h <;> exact hp h
theorem j6o (l:Bs) (h:l.head? = some 38):take l=((if (z3w l).2.1=0 then [38] else (z3w l).1)++(take (l.drop (if (z3w l).2.1=0 then 1 else (z3w l).2.1))).1,(z3w l).2.2 && (take (l.drop (if (z3w l).2.1=0 then 1 else (z3w l).2.1))).2):=by
 cases l with
 | nil=>cases h
 | cons c t =>
  have hc:c=38:=by simpa using h
  subst hc;rw[q9r];unfold z3w
  by_cases h0:(sign (38 :: t)).2.1=0
  ·rw[if_pos h0,if_pos rfl,if_pos rfl,sign_zero _ h0]
   rfl
  ·rw[if_neg h0,if_neg h0,if_neg h0,Nat.max_eq_right (by omega)]
end Mk
namespace Go.Proofs.YtagleefekmdldaaGreatDoor
open Go.Proofs.Tryz Go.RowKit
theorem q6n (s:List UInt8) (w:World) (hs:s.length≤1048576) :
  Calls prog 31 #[.string (st s)] w fun e w'=>e=.returned (.tuple #[.string (st (Mk.take s).1),.bool (Mk.take s).2])∧Below w.heap.size w w':=by
 have e1:(st s).size=s.length:=y9 s;have hsz:∀ l:List UInt8,(st l).size=l.length:=y9;have hst:∀ l:List UInt8,(st l).toList=l:=fun l=>Lib.toList_data _
 go_enter func31,ntmps31;go_wp2_with fail
 go_loopw [4,5,6] (fun ov bv kv wx=>∃ (o:List UInt8) (b:Bool) (k:Nat),k≤s.length∧o.length≤4 * k∧ov=.string (st o)∧bv=.bool b∧kv=.int .i64 k∧Hid (Mk.take s=(o++(Mk.take (s.drop k)).1,b && (Mk.take (s.drop k)).2))∧Hid (Below w.heap.size w wx)) (fun _ _ kv _=>s.length - (intOf kv).toNat)
 case atStart=>exact⟨[],true,0,Nat.zero_le _,Nat.zero_le _,rfl,rfl,rfl,by show _=_;simp,Below.refl _ _⟩
 case round =>
  obtain⟨o,b,k,hk,ho,rfl,rfl,rfl,HT,BL⟩:=hrel
  by_cases hlt:k < s.length
  ·have hd:=List.drop_eq_getElem_cons hlt
   obtain⟨x,hx⟩:∃ x,s[k]=x:=⟨_,rfl⟩;have hget:∀ h,(st s)[k]'h=x:=fun _=>hx
   rw[hx] at hd;have hb9:=x.toNat_lt
   rcases X9 x 38 with ⟨hx1,hx2⟩ | ⟨hx1,hx2⟩
   ·have hx3:((x.toNat:Int) == 38)=true:=hx2
    have hx4:((x.toNat:Int) != 38)=false:=by rw[bne,hx3];rfl
    have hstep:=Mk.j6o (s.drop k) (by rw[hd,hx1];rfl);have hsf:=Mk.q3i (s.drop k);rw[List.length_drop] at hsf;have hsR:(Mk.z3w (s.drop k)).1.length≤4∧(Mk.z3w (s.drop k)).2.1≤s.length - k:=by
     unfold Mk.z3w
     split
     ·exact⟨Nat.zero_le _,Nat.zero_le _⟩
     ·exact hsf
    have HS:=Ld (j6g s k wr hk hs);obtain⟨q,hq⟩:∃ q,Mk.z3w (s.drop k)=q:=⟨_,rfl⟩;rw[hq] at hstep hsR HS;obtain⟨t,n,c⟩:=q;simp only at hstep hsR HS;rw[List.drop_drop] at hstep;have HT2:Hid (Mk.take s=((o++(if n=0 then [38] else t))++(Mk.take (s.drop (k + if n=0 then 1 else n))).1,(b && c) && (Mk.take (s.drop (k + if n=0 then 1 else n))).2)):=by
     show _=_;rw[HT.out,hstep];simp only [List.append_assoc,Bool.and_assoc]
    clear hstep hsf hq HT hd hx hx1 hx2;go_wp2_with fail;refine HS.out.mono ?_;rintro e w2 ⟨rfl,hb2⟩;have BL2:=Ld (BL.out.trans (hb2.mono BL.out.size));clear hb2 HS BL
    by_cases h0:n=0
    ·rw[if_pos h0,if_pos h0] at HT2
     have hn0:((n:Int) == 0)=true:=by rw[beq_iff_eq];omega
     have q1:¬ 9223372036854775807 < (st o).size + (st [38]).size:=by rw[y9,y9];simp;omega
     clear h0 hsR
     cases b
     all_goals
      go_wp2_with fail;go_roundw
      case rel=>exact⟨o++[38],_,k + 1,by omega,by rw[List.length_append];simp;omega,by rw[← q3g];rfl,rfl,by go_num,HT2.out,BL2.out⟩
      case measure=>simp[intOf];omega
    ·rw[if_neg h0,if_neg h0] at HT2
     have hn0:((n:Int) == 0)=false:=by rw[beq_eq_false_iff_ne];omega
     obtain⟨hs1,hs2⟩:=hsR;have q1:¬ 9223372036854775807 < (st o).size + (st t).size:=by rw[y9,y9];omega
     cases b
     all_goals
      go_wp2_with fail;go_roundw
      case rel=>exact⟨o++t,_,k + n,by omega,by rw[List.length_append];omega,by rw[← q3g],rfl,by go_num,HT2.out,BL2.out⟩
      case measure=>simp[intOf];omega
   ·have hx3:((x.toNat:Int) == 38)=false:=hx2
    have hx4:((x.toNat:Int) != 38)=true:=by rw[bne,hx3];rfl
    have HT2:Hid (Mk.take s=((o++[x])++(Mk.take (s.drop (k + 1))).1,b && (Mk.take (s.drop (k + 1))).2)):=by
     show _=_;rw[HT.out,hd,Mk.q3l x _ hx1,List.append_assoc];rfl
    have hx5:(st s).extract k (k + 1)=st [x]:=by rw[j6f s k hlt,hx]
    have q1:¬ 9223372036854775807 < (st o).size + (st [x]).size:=by rw[y9,y9];simp;omega
    clear hx hx1 hx2 hd HT;go_wp2_with fail;go_roundw
    case rel=>exact⟨o++[x],b,k + 1,by omega,by rw[List.length_append];simp;omega,by rw[← q3g],rfl,by go_num,HT2.out,BL.out⟩
    case measure=>simp[intOf];omega
  ·have hke:k=s.length:=by omega
   have HE:Hid (Mk.take s=(o,b)):=by
    show _=_;rw[HT.out,List.drop_of_length_le (by omega),Mk.take_nil,List.append_nil,Bool.and_true]
   clear HT;go_wp2_with fail;go_ret2;exact⟨by rw[HE.out];rfl,BL.out⟩
end Go.Proofs.YtagleefekmdldaaGreatDoor
namespace Mk
def z1h (q:UInt8→Bool) (s:Bs) (j i:Nat):Prop:=j≤i∧i≤s.length∧∀ (m:Nat) (h:m < s.length),j≤m→m < i→q s[m]=true
def z02 (q:UInt8→Bool) (s:Bs) (i:Nat):Prop:=i=s.length∨∃ h:i < s.length,q s[i]=false
theorem z1h.start {q:UInt8→Bool} {s:Bs} {j:Nat} (h:j≤s.length):z1h q s j j:=⟨Lr,h,fun m _ h1 h2=>by omega⟩
theorem z1h.next {q:UInt8→Bool} {s:Bs} {j i:Nat} (h:z1h q s j i) (hl:i < s.length) (x:UInt8) (hx:s[i]=x) (hq:q x=true):z1h q s j (i + 1) :=
 ⟨Nat.le_succ_of_le h.1,hl,fun m hm h1 h2=>by
  by_cases e:m=i
  ·subst e;rw[hx];exact hq
  ·exact h.2.2 m hm h1 (by omega)⟩
theorem z02.at_ {q:UInt8→Bool} {s:Bs} {i:Nat} (hl:i < s.length) (x:UInt8) (hx:s[i]=x) (hq:q x=false):z02 q s i:=.inr ⟨hl,by rw[hx];exact hq⟩
theorem run_end (q:UInt8→Bool) (s:Bs) (i:Nat) (he:z02 q s i):∀ n j,i=j + n→z1h q s j i→(s.drop j).dropWhile q=s.drop i∧(s.drop j).takeWhile q=(s.drop j).take n
 | 0,j,e,h=>by
  have e:i=j:=e;subst e
  rcases he with he | ⟨hl,hq⟩
  ·rw[List.drop_of_length_le (by omega)];exact⟨rfl,rfl⟩
  ·rw[List.drop_eq_getElem_cons hl,List.dropWhile_cons_of_neg (by rw[hq];decide),List.takeWhile_cons_of_neg (by rw[hq];decide)]
   exact⟨rfl,rfl⟩
 | n + 1,j,e,h=>by
  have hjl:j < s.length:=by have:=h.2.1;omega
  have hj:=h.2.2 j hjl (Lr) (by omega);obtain⟨h1,h2⟩:=run_end q s i he n (j + 1) (by omega) ⟨by omega,h.2.1,fun m hm a b=>h.2.2 m hm (by omega) b⟩;rw[List.drop_eq_getElem_cons hjl,List.dropWhile_cons_of_pos hj,List.takeWhile_cons_of_pos hj,h1,h2];exact⟨rfl,rfl⟩
theorem z5c {q:UInt8→Bool} {s:Bs} {j i:Nat} (h:z1h q s j i) (he:z02 q s i):(s.drop j).dropWhile q=s.drop i:=(run_end q s i he (i - j) j (by have:=h.1;omega) h).1
theorem q07 {q:UInt8→Bool} {s:Bs} {j i:Nat} (h:z1h q s j i) (he:z02 q s i):(s.drop j).takeWhile q=(s.drop j).take (i - j):=(run_end q s i he (i - j) j (by have:=h.1;omega) h).2
theorem sep_of (c:UInt8) (w:Bool) (h:white c=w):sepB c=(w || c == 47):=by unfold sepB;rw[h]
theorem stop_of (c:UInt8) (w:Bool) (h:white c=w):Y6 c=(!w && c != 47 && c != 62 && c != 61):=by unfold Y6;rw[h]
theorem tag_of (c:UInt8) (w:Bool) (h:white c=w):Q7 c=(!w && c != 47 && c != 62):=by unfold Q7;rw[h]
theorem j04 (c:UInt8) (w:Bool) (h:white c=w):white c=w:=h
theorem bare_of (c:UInt8) (w:Bool) (h:white c=w):z5k c=(!w && c != 62):=by unfold z5k;rw[h]
theorem dw_at (q:UInt8):∀ (l:Bs) (x:UInt8) (u:Bs),l.dropWhile (· != q)=x :: u→∃ m,nxt [q] l=some m∧m + 1≤l.length∧l.takeWhile (· != q)=l.take m∧u=l.drop (m + 1)
 | [],x,u,h=>by cases h
 | c :: t,x,u,h=>by
  by_cases hc:c=q
  ·subst hc
   rw[List.dropWhile_cons_of_neg (by simp)] at h;injection h with h1 h2;refine⟨0,?_,by simp,?_,by rw[← h2];rfl⟩
   ·rw[nxt,if_pos (by simp[Mg.pre])]
   ·rw[List.takeWhile_cons_of_neg (by simp)];rfl
  ·rw[List.dropWhile_cons_of_pos (by simpa using hc)] at h
   obtain⟨m,h1,h2,h3,h4⟩:=dw_at q t x u h;refine⟨m + 1,?_,by simp;omega,?_,by rw[h4];rfl⟩
   ·rw[nxt,if_neg (by simp[Mg.pre,Ne.symm hc];exact fun e=>hc e),h1];rfl
   ·rw[List.takeWhile_cons_of_pos (by simpa using hc),h3];rfl
theorem dw_no (q:UInt8):∀ (l:Bs),l.dropWhile (· != q)=[]→nxt [q] l=none
 | [],_=>rfl
 | c :: t,h=>by
  by_cases hc:c=q
  ·subst hc
   rw[List.dropWhile_cons_of_neg (by simp)] at h
   cases h
  ·rw[List.dropWhile_cons_of_pos (by simpa using hc)] at h
   rw[nxt,if_neg (by simp[Mg.pre];exact fun e=>hc e),dw_no q t h];rfl
theorem j1h (l:List At) (n:Bs) (i:Nat) (h:i < l.length):z1d (l.take (i + 1)) n=(z1d (l.take i) n || l[i].n == n):=by
 unfold z1d;rw[List.take_succ_eq_append_getElem h,List.any_append];simp
theorem quote_of (q:UInt8) (h:q=34∨q=39):z2r q=true:=by rcases h with rfl | rfl <;> rfl
end Mk
namespace Go.Proofs.YtagleefekmdldaaGreatDoor
open Go.RowKit
theorem AtsV.slice_at {w:World} {K:Nat→Prop} {v:Value} {l:List Mk.At} (h:AtsV w K v l):∃ ao cap,v=.slice ao l.length cap∧∀ k (hk:k < l.length),∃ g o,ao=some ⟨g,o,none⟩∧K g∧w.cell? ⟨g,o + k * 2,none⟩=some (.string (st l[k].n))∧w.cell? ⟨g,o + k * 2 + 1,none⟩=some (.string (st l[k].v)):=by
 obtain⟨g,o,cap,hK,hv,hc⟩:=h.at_
 rcases hv with hv | ⟨ao,hv,hl⟩
 ·exact⟨_,_,hv,fun k hk=>⟨g,o,rfl,hK (by rintro rfl;simp at hk),(hc k hk).1,(hc k hk).2⟩⟩
 ·exact⟨ao,cap,by rw[hv,hl];rfl,fun k hk=>by rw[hl] at hk;simp at hk⟩
end Go.Proofs.YtagleefekmdldaaGreatDoor
