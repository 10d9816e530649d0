/- Contract of the program's All: the tokens of a text. Condition: a text of at most 300000 bytes. -/
import Derived.Test.YtjonkbdldebkiaaGreatDoorVMkTok7
import Derived.RegionTactic
set_option linter.unusedVariables false
set_option linter.unusedSimpArgs false
set_option maxHeartbeats 4000000
set_option maxRecDepth 100000
namespace Mk
theorem q0p {p l u:Bs} (hp:p ≠ []) (h:behind p l=some u):u.length < l.length:=by
 rw[q0o p hp] at h
 split at h
 ·cases h
 ·rename_i h1
  injection h with h;have hge:=Go.Lib.index_ge l p;have h2:=Go.Lib.index_room l p (by omega);have h3:=List.length_pos_iff.2 hp;rw[← h,List.length_drop];omega
theorem q5r:∀ (n:Nat) (r:Bs) (out l:List At) (u:Bs),z0o n r out=some (l,u)→u.length < r.length:=by
 intro n
 induction n with
 | zero=>intro r out l u h;cases h
 | succ n ih =>
  intro r out l u h;rw[z5h] at h;have h0:=dropWhile_le sepB r
  cases hd:r.dropWhile sepB with
  | nil=>rw[hd] at h;cases h
  | cons c t =>
   rw[hd] at h;rw[hd,List.length_cons] at h0;simp only at h
   split at h
   ·injection h with h;injection h with h1 h2;subst h2;omega
   ·cases hr:z4w ((t.dropWhile z0j).dropWhile white) with
    | none=>rw[hr] at h;cases h
    | some x =>
     obtain⟨v,r4⟩:=x;rw[hr] at h;have h1:=q1f hr;have h2:=dropWhile_le white (t.dropWhile z0j);have h3:=dropWhile_le z0j t;have h4:=ih _ _ _ _ h;omega
theorem q66 {c:UInt8} {t u:Bs} (h:hereAt (c :: t)=.gone u):u.length≤t.length:=by
 unfold hereAt at h;have ho:∀ r:Bs,r.length≤t.length→z6n r=.gone u→u.length≤t.length:=by
  intro r hr h;unfold z6n at h;have h0:=dropWhile_le V9 r;simp only at h
  split at h
  ·cases h
  ·rename_i l rest ha
   split at h
   ·cases h
   ·injection h with h;subst h
    have:=q5r _ _ _ _ _ ha;omega
 have hc:∀ r:Bs,r.length≤t.length→z3q r=.gone u→u.length≤t.length:=by
  intro r hr h;unfold z3q at h;have h0:=dropWhile_le V9 r;simp only at h
  split at h
  ·cases h
  ·rename_i rest ha
   split at h
   ·cases h
   ·injection h with h;subst h
    have:=q0p (by decide) ha;omega
 have hp:∀ (p r:Bs),p ≠ []→r.length≤t.length + 1→z1v p r=.gone u→u.length≤t.length:=by
  intro p r hp hr h;unfold z1v at h
  split at h
  ·cases h
  ·rename_i rest ha
   injection h with h;subst h;have:=q0p hp ha;omega
 split at h
 ·exact ho _ (Lr) h
 split at h
 ·exact hc _ (by rw[List.length_drop,List.length_cons];omega) h
 split at h
 ·exact hp _ _ (by decide) (by rw[List.length_drop,List.length_cons];omega) h
 split at h
 ·exact hp _ _ (by decide) (by rw[List.length_cons];omega) h
 ·cases h
theorem q9m {c:UInt8} {t u:Bs} {k:Tok} (h:hereAt (c :: t)=.tag k u):u.length≤t.length:=by
 unfold hereAt at h;have ho:∀ r:Bs,r.length≤t.length→z6n r=.tag k u→u.length≤t.length:=by
  intro r hr h;unfold z6n at h;have h0:=dropWhile_le V9 r;simp only at h
  split at h
  ·cases h
  ·rename_i l rest ha
   split at h
   ·injection h with h h';subst h'
    have:=q5r _ _ _ _ _ ha;omega
   ·cases h
 have hc:∀ r:Bs,r.length≤t.length→z3q r=.tag k u→u.length≤t.length:=by
  intro r hr h;unfold z3q at h;have h0:=dropWhile_le V9 r;simp only at h
  split at h
  ·cases h
  ·rename_i rest ha
   split at h
   ·injection h with h h';subst h'
    have:=q0p (by decide) ha;omega
   ·cases h
 have hp:∀ (p r:Bs),z1v p r ≠ .tag k u:=by
  intro p r h;unfold z1v at h
  split at h <;> cases h
 split at h
 ·exact ho _ (Lr) h
 split at h
 ·exact hc _ (by rw[List.length_drop,List.length_cons];omega) h
 split at h
 ·exact absurd h (hp _ _)
 split at h
 ·exact absurd h (hp _ _)
 ·cases h
theorem q3o:∀ (n m:Nat) (r text:Bs) (out:List Tok),r.length≤n→r.length≤m→z5a n r text out=z5a m r text out:=by
 intro n
 induction n with
 | zero =>
  intro m r text out h _;have:r=[]:=List.eq_nil_of_length_eq_zero (by omega);subst this
  cases m <;> rfl
 | succ n ih =>
  intro m r text out h hm
  cases r with
  | nil=>cases m <;> rfl
  | cons c t =>
   rw[List.length_cons] at h hm
   cases m with
   | zero=>omega
   | succ m =>
    simp only [z5a]
    split
    ·cases hh:hereAt (c :: t) with
     | text=>exact ih m t _ _ (by omega) (by omega)
     | stop=>rfl
     | gone u=>have:=q66 hh;exact ih m u _ _ (by omega) (by omega)
     | tag k u=>have:=q9m hh;exact ih m u _ _ (by omega) (by omega)
    ·exact ih m t _ _ (by omega) (by omega)
def q04 (r text:Bs) (out:List Tok):List Tok:=z5a r.length r text out
theorem q91 (c:UInt8) (t text:Bs) (out:List Tok) (h:c ≠ 60):q04 (c :: t) text out=q04 t (text++[c]) out:=by
 show z5a (t.length + 1) (c :: t) text out=_;simp only [z5a];rw[if_neg h];rfl
theorem q3p (t text:Bs) (out:List Tok):q04 (60 :: t) text out=(match hereAt (60 :: t) with
  | .text=>q04 t (text++[60]) out
  | .stop=>flush (text++60 :: t) out
  | .gone u=>q04 u text out
  | .tag k u=>q04 u [] (flush text out++[k])):=by
 show z5a (t.length + 1) (60 :: t) text out=_;simp only [z5a];rw[if_pos trivial]
 cases hh:hereAt (60 :: t) with
 | text=>rfl
 | stop=>rfl
 | gone u=>exact q3o _ _ u _ _ (q66 hh) (Lr)
 | tag k u=>exact q3o _ _ u _ _ (q9m hh) (Lr)
theorem q78:∀ (r text:Bs) (out:List Tok),q04 r text out=q04 (r.dropWhile (fun c=>c != 60)) (text++r.takeWhile (fun c=>c != 60)) out
 | [],text,out=>by simp
 | c :: t,text,out=>by
  by_cases h:c=60
  ·subst h
   simp
  ·have hb:(c != 60)=true:=bne_iff_ne.2 h
   rw[q91 c t text out h,List.dropWhile_cons,List.takeWhile_cons,hb];simp only [if_true];rw[q78 t (text++[c]) out];simp
theorem j6m (r:Bs):Mg.pre [60] r=z8j (fun c=>c == 60) r:=by
 cases r with
 | nil=>rfl
 | cons c t=>simp[Mg.pre,z8j]
end Mk
namespace Go.Proofs.YtjonkbdldebkiaaGreatDoor
open Go.Proofs.Tryz Go.RowKit
theorem RdO.toks {w:World} {B R:Nat} {s:ByteArray} {k:Nat} {tx:List UInt8} {ts:List Mk.Tok} {ov:Value} {xs:List Value} (h:RdO w B R s k tx ts ov xs) (hl:ts.length≤maxLen):q1v w (fun b=>B≤b∧b < w.heap.size) ov ts:=by
 obtain⟨ao,cap,h1,h2,h3⟩:=z19.of_own (K:=fun b=>B≤b∧b < w.heap.size) h.own (fun g hg=>h.own.lt g hg);exact⟨ao,cap,xs,h1,h2,h.cells.frame (fun b hb=>⟨⟨hb.1,hb.lt⟩,rfl⟩),h3.2⟩

theorem step_next {w:World} {B R:Nat} {s:ByteArray} {k:Nat} {tx:List UInt8} {ts:List Mk.Tok} (h:z88 B R s k tx ts w) (hk:k < s.size) (htx:tx.length≤k) (hts:ts.length≤2 * k) :
  ∃ k' tx' ts',k < k'∧k'≤s.size∧tx'.length≤k'∧ts'.length≤2 * k'∧Mk.q04 (s.data.toList.drop k) tx ts=Mk.q04 (s.data.toList.drop k') tx' ts'∧RdS w B R s k' tx' ts':=by
 unfold z88 at h
 split at h
 ·rename_i hp
  have hc:s[k]=60:=by
   rw[Mk.j6m,z09 s k hk] at hp;have hp:(s[k] == 60)=true:=hp;exact beq_iff_eq.1 hp
  have hd:s.data.toList.drop k=60 :: s.data.toList.drop (k + 1):=by rw[z09 s k hk,hc]
  have he:=Mk.q3p (s.data.toList.drop (k + 1)) tx ts;rw[← hd] at he
  cases hh:Mk.hereAt (s.data.toList.drop k) with
  | text =>
   rw[hh] at h he;exact⟨k + 1,_,_,by omega,by omega,by rw[List.length_append,List.length_singleton];omega,by omega,he,h⟩
  | stop=>rw[hh] at h;exact h.elim
  | gone r =>
   rw[hh] at h he;obtain⟨j,h1,h2,h3,h4⟩:=h;exact⟨j,_,_,h2,h1,by omega,by omega,by rw[he,h3],h4⟩
  | tag t r =>
   rw[hh] at h he;obtain⟨j,h1,h2,h3,h4⟩:=h;have:=z8i tx ts;exact⟨j,_,_,h2,h1,Nat.zero_le _,by rw[List.length_append,List.length_singleton];omega,by rw[he,h3],h4⟩
 ·rename_i hp
  have hne:s[k] ≠ 60:=by
   intro e
   apply hp
   rw[Mk.j6m,z09 s k hk];exact beq_iff_eq.2 e
  have h1:0 < ((s.data.toList.drop k).takeWhile (fun c=>c != 60)).length:=by
   rw[z09 s k hk,List.takeWhile_cons,show (s[k] != 60)=true from bne_iff_ne.2 hne];simp
  have h2:=z6d s k (by omega) (fun c=>c != 60);exact⟨_,_,_,by omega,h2,by rw[List.length_append];omega,by omega,by rw[Mk.q78,← adv s k],h⟩

theorem mk_All (s:ByteArray) (w:World) (hg:Gl w) (hs:s.size≤300000) :
  Calls prog 77 #[.string s] w fun e w'=>∃ v,e=.returned v∧q1v w' (fun b=>w.heap.size≤b∧b < w'.heap.size) v (Mk.toks s.data.toList)∧Below w.heap.size w w':=by
 have hlt:=hg.lt;have hb0:=(Below.refl _ w).alloc (Lr) (.cells #[.string s,.int .i64 0,.string ⟨#[]⟩,.slice none 0 0] 179);have RD0:Hid (RdS (w.alloc (.cells #[.string s,.int .i64 0,.string ⟨#[]⟩,.slice none 0 0] 179)) w.heap.size w.heap.size s 0 [] []) :=
  ⟨.slice none 0 0,[],⟨hlt,Lr,Blk.new w _ _,World.ownsRow_nil _ _ _ _,rfl,by simp[Value.ownBlock]⟩⟩
 have L0:=Ld hb0;clear hb0;go_enter func77,ntmps77
 go_upto_block 0 with fail
 generalize w.alloc (.cells #[.string s,.int .i64 0,.string ⟨#[]⟩,.slice none 0 0] 179)=w0 at RD0 L0 ⊢
 go_cut [] (fun wx=>∃ k tx ts,tx.length≤600000∧ts.length≤600000∧Hid (Mk.toks s.data.toList=Mk.flush tx ts)∧Hid (RdS wx w.heap.size w.heap.size s k tx ts)∧Hid (Below w.heap.size w wx))
 case first =>
  go_wp2_with fail
  go_loopw [14] (fun _ wr=>∃ k tx ts,k≤s.size∧tx.length≤k∧ts.length≤2 * k∧Hid (Mk.toks s.data.toList=Mk.q04 (s.data.toList.drop k) tx ts)∧Hid (RdS wr w.heap.size w.heap.size s k tx ts)∧Hid (Below w.heap.size w wr)) (fun _ wr=>s.size - atOf wr w.heap.size)
  case atStart=>exact⟨0,[],[],Nat.zero_le _,Lr,Nat.zero_le _,rfl,RD0.out,L0.out⟩
  case round =>
   obtain⟨k,tx,ts,hk,htx,hts,HA,RD,BL⟩:=hrel;have hrd:∃ ov,Rd wr w.heap.size s k tx ov:=by obtain⟨ov,xs,h⟩:=RD.out;exact⟨ov,h.rd⟩
   obtain⟨ov,hrd⟩:=hrd;have c1:=hrd.c1;have HAT:=Ld hrd.atOf;clear hrd
   by_cases hks:k < s.size
   ·have hg1:=hg.below BL.out hlt
    have HT:=Ld (rd_try hg1 RD.out hks (by omega) (by omega) (by omega));clear hg1;go_wp2_with fail;refine HT.out.mono ?_;rintro e w1 ⟨⟨rfl,hno⟩ | ⟨rfl,hok⟩,hb1⟩
    ·have BL1:=Ld (BL.out.trans hb1)
     obtain⟨hp,hh,j,hrs⟩:=hno;have hc:s[k]=60:=by
      rw[Mk.j6m,z09 s k hks] at hp;have hp:(s[k] == 60)=true:=hp;exact beq_iff_eq.1 hp
     have hd:s.data.toList.drop k=60 :: s.data.toList.drop (k + 1):=by rw[z09 s k hks,hc]
     have HF:Hid (Mk.toks s.data.toList=Mk.flush (tx++s.data.toList.drop k) ts):=by
      show _=_;rw[HA.out,hd,Mk.q3p,← hd,hh]
     obtain⟨ov1,xs1,ho⟩:=hrs;have HO:=Ld ho;have c2:=ho.rd.c2;have f2:=ho.rd.fz 2;have hdl:(s.data.toList.drop k).length≤300000:=by rw[List.length_drop,bs_len];omega
     have hex:s.extract k s.size=st (s.data.toList.drop k):=by rw[Y1,List.take_of_length_le (by rw[List.length_drop,bs_len];omega)]
     have HEX:=Ld hex;have q1:¬ 9223372036854775807 < (st tx).size + (s.size - k):=by rw[Z4];omega
     have hki:(k:Int)≤s.size:=by omega
     clear HT hb1 hp hh hc hd ho hex c1 HA RD BL;go_wp2_with fail
     go_region
     all_goals
      rw[HEX.out,show st tx++st (s.data.toList.drop k)=st (tx++s.data.toList.drop k) from z3m (st tx) (st (s.data.toList.drop k))];have HO2:=Ld (HO.out.setText (tx++s.data.toList.drop k));have BL2:=Ld (BL1.out.setCell (p:=⟨w.heap.size,2,none⟩) (Lr) (.string (st (tx++s.data.toList.drop k))));go_wp2_with fail;go_meet
      case rel=>exact⟨j,_,ts,by rw[List.length_append];omega,by omega,HF,⟨_,_,HO2.out.below ((Below.refl _ _).drew)⟩,BL2.out.drew⟩
    ·obtain⟨k',tx',ts',h1,h2,h3,h4,h5,h6⟩:=step_next hok hks htx hts
     have HA1:Hid (Mk.toks s.data.toList=Mk.q04 (s.data.toList.drop k') tx' ts'):=by show _=_;rw[HA.out,h5]
     have RD1:=Ld h6;have BL1:=Ld (BL.out.trans hb1);have hat:atOf w1 w.heap.size=k':=by obtain⟨_,_,h⟩:=h6;exact h.rd.atOf
     have HAT1:=Ld hat
     clear HT hb1 hok h5 h6 hat HA RD BL;go_wp2_with fail;go_roundw
     case rel=>exact⟨k',tx',ts',h2,h3,h4,HA1,RD1,BL1⟩
     case measure=>rw[HAT.out,HAT1.out];omega
   ·have hke:k=s.size:=by omega
    have HF:Hid (Mk.toks s.data.toList=Mk.flush tx ts):=by
     show _=_;rw[HA.out,List.drop_of_length_le (by simp;omega)];rfl
    clear HA;go_wp2_with fail;go_meet
    case rel=>exact⟨k,tx,ts,by omega,by omega,HF,RD,BL⟩
 case rest =>
  obtain⟨k,tx,ts,htx,hts,HF,RD,BL⟩:=hcut;have hg1:=hg.below BL.out hlt;obtain⟨ov,xs,h⟩:=RD.out;have HFL:=Ld (q52 hg1 h (by omega) (by omega));clear hg1 h;go_wp2_with fail;refine HFL.out.mono ?_;rintro e w1 ⟨rfl,⟨ov1,xs1,h1⟩,hb1,_⟩;have c3:=h1.rd.c3;have hfl:=z8i tx ts;have hty:=h1.toks (by unfold maxLen;omega);rw[← HF.out] at hty;have HTY:=Ld hty;have BL1:=Ld (BL.out.trans hb1);clear HFL h1 hb1 hty;go_wp2_with fail;go_ret;exact⟨_,rfl,HTY.out,BL1.out⟩
end Go.Proofs.YtjonkbdldebkiaaGreatDoor
