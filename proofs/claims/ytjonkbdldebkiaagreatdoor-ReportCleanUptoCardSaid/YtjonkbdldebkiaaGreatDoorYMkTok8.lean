/- Contract of the program's All: the tokens of a text. Condition: a text of at most 300000 bytes. -/
import Derived.Test.YtjonkbdldebkiaaGreatDoorYMkTok7
import Derived.RegionTactic
set_option linter.unusedVariables false
set_option linter.unusedSimpArgs false
namespace Mk
theorem behind_lt {p l u : Bs} (hp : p ≠ []) (h : behind p l = some u) : u.length < l.length:=by
 rw [behind_is p hp] at h
 split at h
 ·cases h
 ·rename_i h1
  injection h with h
  have hge:=Go.Lib.index_ge l p
  have h2:=Go.Lib.index_room l p (by omega)
  have h3:=List.length_pos_iff.2 hp
  rw [← h,List.length_drop]
  omega
theorem attrsN_lt : ∀ (n : Nat) (r : Bs) (out l : List At) (u : Bs),attrsN n r out = some (l,u)→u.length < r.length:=by
 intro n
 induction n with
 | zero=>intro r out l u h;cases h
 | succ n ih =>
  intro r out l u h
  rw [attrsN_succ] at h
  have h0:=dropWhile_le sepB r
  cases hd : r.dropWhile sepB with
  | nil=>rw [hd] at h;cases h
  | cons c t =>
   rw [hd] at h
   rw [hd,List.length_cons] at h0
   simp only at h
   split at h
   ·injection h with h;injection h with h1 h2;subst h2;omega
   ·cases hr : restOf ((t.dropWhile atStop).dropWhile white) with
    | none=>rw [hr] at h;cases h
    | some x =>
     obtain ⟨v,r4⟩:=x
     rw [hr] at h
     have h1:=restOf_le hr
     have h2:=dropWhile_le white (t.dropWhile atStop)
     have h3:=dropWhile_le atStop t
     have h4:=ih _ _ _ _ h
     omega
theorem here_gone {c : UInt8} {t u : Bs} (h : hereAt (c :: t) = .gone u) : u.length≤t.length:=by
 unfold hereAt at h
 have ho : ∀ r : Bs,r.length≤t.length→openAt r = .gone u→u.length≤t.length:=by
  intro r hr h
  unfold openAt at h
  have h0:=dropWhile_le tagStop r
  simp only at h
  split at h
  ·cases h
  ·rename_i l rest ha
   split at h
   ·cases h
   ·injection h with h;subst h
    have:=attrsN_lt _ _ _ _ _ ha
    omega
 have hc : ∀ r : Bs,r.length≤t.length→closeAt r = .gone u→u.length≤t.length:=by
  intro r hr h
  unfold closeAt at h
  have h0:=dropWhile_le tagStop r
  simp only at h
  split at h
  ·cases h
  ·rename_i rest ha
   split at h
   ·cases h
   ·injection h with h;subst h
    have:=behind_lt (by decide) ha
    omega
 have hp : ∀ (p r : Bs),p ≠ []→r.length≤t.length + 1→passAt p r = .gone u→u.length≤t.length:=by
  intro p r hp hr h
  unfold passAt at h
  split at h
  ·cases h
  ·rename_i rest ha
   injection h with h;subst h
   have:=behind_lt hp ha
   omega
 split at h
 ·exact ho _ (Nat.le_refl _) h
 split at h
 ·exact hc _ (by rw [List.length_drop,List.length_cons];omega) h
 split at h
 ·exact hp _ _ (by decide) (by rw [List.length_drop,List.length_cons];omega) h
 split at h
 ·exact hp _ _ (by decide) (by rw [List.length_cons];omega) h
 ·cases h
theorem here_tag {c : UInt8} {t u : Bs} {k : Tok} (h : hereAt (c :: t) = .tag k u) : u.length≤t.length:=by
 unfold hereAt at h
 have ho : ∀ r : Bs,r.length≤t.length→openAt r = .tag k u→u.length≤t.length:=by
  intro r hr h
  unfold openAt at h
  have h0:=dropWhile_le tagStop r
  simp only at h
  split at h
  ·cases h
  ·rename_i l rest ha
   split at h
   ·injection h with h h';subst h'
    have:=attrsN_lt _ _ _ _ _ ha
    omega
   ·cases h
 have hc : ∀ r : Bs,r.length≤t.length→closeAt r = .tag k u→u.length≤t.length:=by
  intro r hr h
  unfold closeAt at h
  have h0:=dropWhile_le tagStop r
  simp only at h
  split at h
  ·cases h
  ·rename_i rest ha
   split at h
   ·injection h with h h';subst h'
    have:=behind_lt (by decide) ha
    omega
   ·cases h
 have hp : ∀ (p r : Bs),passAt p r ≠ .tag k u:=by
  intro p r h
  unfold passAt at h
  split at h <;> cases h
 split at h
 ·exact ho _ (Nat.le_refl _) h
 split at h
 ·exact hc _ (by rw [List.length_drop,List.length_cons];omega) h
 split at h
 ·exact absurd h (hp _ _)
 split at h
 ·exact absurd h (hp _ _)
 ·cases h
theorem toksN_fuel : ∀ (n m : Nat) (r text : Bs) (out : List Tok),r.length≤n→r.length≤m→toksN n r text out = toksN m r text out:=by
 intro n
 induction n with
 | zero =>
  intro m r text out h _
  have : r = []:=List.eq_nil_of_length_eq_zero (by omega)
  subst this
  cases m <;> rfl
 | succ n ih =>
  intro m r text out h hm
  cases r with
  | nil=>cases m <;> rfl
  | cons c t =>
   rw [List.length_cons] at h hm
   cases m with
   | zero=>omega
   | succ m =>
    simp only [toksN]
    split
    ·cases hh : hereAt (c :: t) with
     | text=>exact ih m t _ _ (by omega) (by omega)
     | stop=>rfl
     | gone u=>have:=here_gone hh;exact ih m u _ _ (by omega) (by omega)
     | tag k u=>have:=here_tag hh;exact ih m u _ _ (by omega) (by omega)
    ·exact ih m t _ _ (by omega) (by omega)
def toksR (r text : Bs) (out : List Tok) : List Tok:=toksN r.length r text out
theorem toksR_plain (c : UInt8) (t text : Bs) (out : List Tok) (h : c ≠ 60) : toksR (c :: t) text out = toksR t (text++[c]) out:=by
 show toksN (t.length + 1) (c :: t) text out = _
 simp only [toksN];rw [if_neg h];rfl
theorem toksR_here (t text : Bs) (out : List Tok) : toksR (60 :: t) text out = (match hereAt (60 :: t) with
  | .text=>toksR t (text++[60]) out
  | .stop=>flush (text++60 :: t) out
  | .gone u=>toksR u text out
  | .tag k u=>toksR u [] (flush text out++[k])):=by
 show toksN (t.length + 1) (60 :: t) text out = _
 simp only [toksN];rw [if_pos trivial]
 cases hh : hereAt (60 :: t) with
 | text=>rfl
 | stop=>rfl
 | gone u=>exact toksN_fuel _ _ u _ _ (here_gone hh) (Nat.le_refl _)
 | tag k u=>exact toksN_fuel _ _ u _ _ (here_tag hh) (Nat.le_refl _)
theorem toksR_run : ∀ (r text : Bs) (out : List Tok),toksR r text out = toksR (r.dropWhile (fun c=>c != 60)) (text++r.takeWhile (fun c=>c != 60)) out
 | [],text,out=>by simp
 | c :: t,text,out=>by
  by_cases h : c = 60
  ·subst h
   simp
  ·have hb : (c != 60) = true:=bne_iff_ne.2 h
   rw [toksR_plain c t text out h,List.dropWhile_cons,List.takeWhile_cons,hb]
   simp only [if_true]
   rw [toksR_run t (text++[c]) out]
   simp
theorem pre60 (r : Bs) : Mg.pre [60] r = headIs (fun c=>c == 60) r:=by
 cases r with
 | nil=>rfl
 | cons c t=>simp [Mg.pre,headIs]
end Mk
namespace Go.Proofs.YtjonkbdldebkiaaGreatDoor
open Go.RowKit
/-- tokens that nobody else will write. -/
theorem RdO.toks {w : World} {B R : Nat} {s : ByteArray} {k : Nat} {tx : List UInt8} {ts : List Mk.Tok} {ov : Value} {xs : List Value} (h : RdO w B R s k tx ts ov xs) (hl : ts.length≤maxLen) : ToksV w (fun b=>B≤b∧b < w.heap.size) ov ts:=by
 obtain ⟨ao,cap,h1,h2,h3⟩:=RowAt.of_own (K:=fun b=>B≤b∧b < w.heap.size) h.own (fun g hg=>h.own.lt g hg)
 exact ⟨ao,cap,xs,h1,h2,h.cells.frame (fun b hb=>⟨⟨hb.1,hb.lt⟩,rfl⟩),h3.2⟩

theorem step_next {w : World} {B R : Nat} {s : ByteArray} {k : Nat} {tx : List UInt8} {ts : List Mk.Tok} (h : StepOk B R s k tx ts w) (hk : k < s.size) (htx : tx.length≤k) (hts : ts.length≤2 * k) :
  ∃ k' tx' ts',k < k'∧k'≤s.size∧tx'.length≤k'∧ts'.length≤2 * k'∧Mk.toksR (s.data.toList.drop k) tx ts = Mk.toksR (s.data.toList.drop k') tx' ts'∧RdS w B R s k' tx' ts':=by
 unfold StepOk at h
 split at h
 ·rename_i hp
  have hc : s[k] = 60:=by
   rw [Mk.pre60,bs_drop s k hk] at hp
   have hp : (s[k] == 60) = true:=hp
   exact beq_iff_eq.1 hp
  have hd : s.data.toList.drop k = 60 :: s.data.toList.drop (k + 1):=by rw [bs_drop s k hk,hc]
  have he:=Mk.toksR_here (s.data.toList.drop (k + 1)) tx ts
  rw [← hd] at he
  cases hh : Mk.hereAt (s.data.toList.drop k) with
  | text =>
   rw [hh] at h he
   exact ⟨k + 1,_,_,by omega,by omega,by rw [List.length_append,List.length_singleton];omega,by omega,he,h⟩
  | stop=>rw [hh] at h;exact h.elim
  | gone r =>
   rw [hh] at h he
   obtain ⟨j,h1,h2,h3,h4⟩:=h
   exact ⟨j,_,_,h2,h1,by omega,by omega,by rw [he,h3],h4⟩
  | tag t r =>
   rw [hh] at h he
   obtain ⟨j,h1,h2,h3,h4⟩:=h
   have:=flush_len tx ts
   exact ⟨j,_,_,h2,h1,Nat.zero_le _,by rw [List.length_append,List.length_singleton];omega,by rw [he,h3],h4⟩
 ·rename_i hp
  have hne : s[k] ≠ 60:=by
   intro e
   apply hp
   rw [Mk.pre60,bs_drop s k hk]
   exact beq_iff_eq.2 e
  have h1 : 0 < ((s.data.toList.drop k).takeWhile (fun c=>c != 60)).length:=by
   rw [bs_drop s k hk,List.takeWhile_cons,show (s[k] != 60) = true from bne_iff_ne.2 hne];simp
  have h2:=adv_le s k (by omega) (fun c=>c != 60)
  exact ⟨_,_,_,by omega,h2,by rw [List.length_append];omega,by omega,by rw [Mk.toksR_run,← adv s k],h⟩

set_option maxHeartbeats 4000000 in
set_option maxRecDepth 100000 in
theorem mk_All (s : ByteArray) (w : World) (hg : Gl w) (hs : s.size≤300000) :
  Calls Tryz.prog 77 #[.string s] w fun e w'=>∃ v,e = .returned v∧ToksV w' (fun b=>w.heap.size≤b∧b < w'.heap.size) v (Mk.toks s.data.toList)∧Below w.heap.size w w':=by
 have hlt:=hg.lt
 have hb0:=(Below.refl _ w).alloc (Nat.le_refl _) (.cells #[.string s,.int .i64 0,.string ⟨#[]⟩,.slice none 0 0] 179)
 have RD0 : Hid (RdS (w.alloc (.cells #[.string s,.int .i64 0,.string ⟨#[]⟩,.slice none 0 0] 179)) w.heap.size w.heap.size s 0 [] []) :=
  ⟨.slice none 0 0,[],⟨hlt,Nat.le_refl _,Blk.new w _ _,World.ownsRow_nil _ _ _ _,rfl,by simp [Value.ownBlock]⟩⟩
 have L0:=Lib.hid hb0
 clear hb0
 go_enter Tryz.func77,Tryz.ntmps77
 go_upto_block 0 with fail
 generalize w.alloc (.cells #[.string s,.int .i64 0,.string ⟨#[]⟩,.slice none 0 0] 179) = w0 at RD0 L0 ⊢
 go_cut [] (fun wx=>∃ k tx ts,tx.length≤600000∧ts.length≤600000∧Hid (Mk.toks s.data.toList = Mk.flush tx ts)∧Hid (RdS wx w.heap.size w.heap.size s k tx ts)∧Hid (Below w.heap.size w wx))
 case first =>
  go_wp2_with fail
  go_loopw [14] (fun _ wr=>∃ k tx ts,k≤s.size∧tx.length≤k∧ts.length≤2 * k∧Hid (Mk.toks s.data.toList = Mk.toksR (s.data.toList.drop k) tx ts)∧Hid (RdS wr w.heap.size w.heap.size s k tx ts)∧Hid (Below w.heap.size w wr)) (fun _ wr=>s.size - atOf wr w.heap.size)
  case atStart=>exact ⟨0,[],[],Nat.zero_le _,Nat.le_refl _,Nat.zero_le _,rfl,RD0.out,L0.out⟩
  case round =>
   obtain ⟨k,tx,ts,hk,htx,hts,HA,RD,BL⟩:=hrel
   have hrd : ∃ ov,Rd wr w.heap.size s k tx ov:=by obtain ⟨ov,xs,h⟩:=RD.out;exact ⟨ov,h.rd⟩
   obtain ⟨ov,hrd⟩:=hrd
   have c1:=hrd.c1
   have HAT:=Lib.hid hrd.atOf
   clear hrd
   by_cases hks : k < s.size
   ·have hg1:=hg.below BL.out hlt
    have HT:=Lib.hid (rd_try hg1 RD.out hks (by omega) (by omega) (by omega))
    clear hg1
    go_wp2_with fail
    refine HT.out.mono ?_
    rintro e w1 ⟨⟨rfl,hno⟩ | ⟨rfl,hok⟩,hb1⟩
    ·have BL1:=Lib.hid (BL.out.trans hb1)
     obtain ⟨hp,hh,j,hrs⟩:=hno
     have hc : s[k] = 60:=by
      rw [Mk.pre60,bs_drop s k hks] at hp
      have hp : (s[k] == 60) = true:=hp
      exact beq_iff_eq.1 hp
     have hd : s.data.toList.drop k = 60 :: s.data.toList.drop (k + 1):=by rw [bs_drop s k hks,hc]
     have HF : Hid (Mk.toks s.data.toList = Mk.flush (tx++s.data.toList.drop k) ts):=by
      show _ = _
      rw [HA.out,hd,Mk.toksR_here,← hd,hh]
     obtain ⟨ov1,xs1,ho⟩:=hrs
     have HO:=Lib.hid ho
     have c2:=ho.rd.c2
     have f2:=ho.rd.fz 2
     have hdl : (s.data.toList.drop k).length≤300000:=by rw [List.length_drop,bs_len];omega
     have hex : s.extract k s.size = st (s.data.toList.drop k):=by rw [extract_st,List.take_of_length_le (by rw [List.length_drop,bs_len];omega)]
     have HEX:=Lib.hid hex
     have q1 : ¬ 9223372036854775807 < (st tx).size + (s.size - k):=by rw [st_size];omega
     have hki : (k : Int)≤s.size:=by omega
     clear HT hb1 hp hh hc hd ho hex c1 HA RD BL
     go_wp2_with fail
     go_region
     all_goals
      rw [HEX.out,show st tx++st (s.data.toList.drop k) = st (tx++s.data.toList.drop k) from app_st (st tx) (st (s.data.toList.drop k))]
      have HO2:=Lib.hid (HO.out.setText (tx++s.data.toList.drop k))
      have BL2:=Lib.hid (BL1.out.setCell (p:=⟨w.heap.size,2,none⟩) (Nat.le_refl _) (.string (st (tx++s.data.toList.drop k))))
      go_wp2_with fail
      go_meet
      case rel=>exact ⟨j,_,ts,by rw [List.length_append];omega,by omega,HF,⟨_,_,HO2.out.below ((Below.refl _ _).drew)⟩,BL2.out.drew⟩
    ·obtain ⟨k',tx',ts',h1,h2,h3,h4,h5,h6⟩:=step_next hok hks htx hts
     have HA1 : Hid (Mk.toks s.data.toList = Mk.toksR (s.data.toList.drop k') tx' ts'):=by show _ = _;rw [HA.out,h5]
     have RD1:=Lib.hid h6
     have BL1:=Lib.hid (BL.out.trans hb1)
     have hat : atOf w1 w.heap.size = k':=by obtain ⟨_,_,h⟩:=h6;exact h.rd.atOf
     have HAT1:=Lib.hid hat
     clear HT hb1 hok h5 h6 hat HA RD BL
     go_wp2_with fail
     go_roundw
     case rel=>exact ⟨k',tx',ts',h2,h3,h4,HA1,RD1,BL1⟩
     case measure=>rw [HAT.out,HAT1.out];omega
   ·have hke : k = s.size:=by omega
    have HF : Hid (Mk.toks s.data.toList = Mk.flush tx ts):=by
     show _ = _
     rw [HA.out,List.drop_of_length_le (by simp;omega)];rfl
    clear HA
    go_wp2_with fail
    go_meet
    case rel=>exact ⟨k,tx,ts,by omega,by omega,HF,RD,BL⟩
 case rest =>
  obtain ⟨k,tx,ts,htx,hts,HF,RD,BL⟩:=hcut
  have hg1:=hg.below BL.out hlt
  obtain ⟨ov,xs,h⟩:=RD.out
  have HFL:=Lib.hid (rd_flush hg1 h (by omega) (by omega))
  clear hg1 h
  go_wp2_with fail
  refine HFL.out.mono ?_
  rintro e w1 ⟨rfl,⟨ov1,xs1,h1⟩,hb1,_⟩
  have c3:=h1.rd.c3
  have hfl:=flush_len tx ts
  have hty:=h1.toks (by unfold maxLen;omega)
  rw [← HF.out] at hty
  have HTY:=Lib.hid hty
  have BL1:=Lib.hid (BL.out.trans hb1)
  clear HFL h1 hb1 hty
  go_wp2_with fail
  go_ret
  exact ⟨_,rfl,HTY.out,BL1.out⟩
end Go.Proofs.YtjonkbdldebkiaaGreatDoor
