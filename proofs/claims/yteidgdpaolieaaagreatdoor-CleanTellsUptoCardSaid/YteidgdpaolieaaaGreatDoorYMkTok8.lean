/- Contract of the program's All: the tokens of a text. Condition: a text of at most 300000 bytes. -/
import Derived.Test.YteidgdpaolieaaaGreatDoorYMkTok7
import Derived.RegionTactic
import Derived.Test.YteidgdpaolieaaaGreatDoorYMkTaken
import Derived.Test.YteidgdpaolieaaaGreatDoorYMkTok2
set_option linter.unusedVariables false
set_option linter.unusedSimpArgs false
namespace Mk
theorem behind_lt {p l u : Bs} (hp : p ≠ []) (h : behind p l = some u) : u.length < l.length:=by
 rw [behind_is p hp] at h
 split at h
 ·cases h
 ·rename_i h1
  injection h with h
  have hge:=Go.Lib.index_ge l p
  have h2:=Go.Lib.index_room l p (by omega)
  have h3:=List.length_pos_iff.2 hp
  rw [← h,List.length_drop]
  omega
theorem attrsN_lt : ∀ (n : Nat) (r : Bs) (out l : List At) (u : Bs),attrsN n r out = some (l,u)→u.length < r.length:=by
 intro n
 induction n with
 | zero=>intro r out l u h;cases h
 | succ n ih =>
  intro r out l u h
  rw [attrsN_succ] at h
  have h0:=dropWhile_le sepB r
  cases hd : r.dropWhile sepB with
  | nil=>rw [hd] at h;cases h
  | cons c t =>
   rw [hd] at h
   rw [hd,List.length_cons] at h0
   simp only at h
   split at h
   ·injection h with h;injection h with h1 h2;subst h2;omega
   ·cases hr : restOf ((t.dropWhile atStop).dropWhile white) with
    | none=>rw [hr] at h;cases h
    | some x =>
     obtain ⟨v,r4⟩:=x
     rw [hr] at h
     have h1:=restOf_le hr
     have h2:=dropWhile_le white (t.dropWhile atStop)
     have h3:=dropWhile_le atStop t
     have h4:=ih _ _ _ _ h
     omega
theorem here_gone {c : UInt8} {t u : Bs} (h : hereAt (c :: t) = .gone u) : u.length≤t.length:=by
 unfold hereAt at h
 have ho : ∀ r : Bs,r.length≤t.length→openAt r = .gone u→u.length≤t.length:=by
  intro r hr h
  unfold openAt at h
  have h0:=dropWhile_le tagStop r
  simp only at h
  split at h
  ·cases h
  ·rename_i l rest ha
   split at h
   ·cases h
   ·injection h with h;subst h
    have:=attrsN_lt _ _ _ _ _ ha
    omega
 have hc : ∀ r : Bs,r.length≤t.length→closeAt r = .gone u→u.length≤t.length:=by
  intro r hr h
  unfold closeAt at h
  have h0:=dropWhile_le tagStop r
  simp only at h
  split at h
  ·cases h
  ·rename_i rest ha
   split at h
   ·cases h
   ·injection h with h;subst h
    have:=behind_lt (by decide) ha
    omega
 have hp : ∀ (p r : Bs),p ≠ []→r.length≤t.length + 1→passAt p r = .gone u→u.length≤t.length:=by
  intro p r hp hr h
  unfold passAt at h
  split at h
  ·cases h
  ·rename_i rest ha
   injection h with h;subst h
   have:=behind_lt hp ha
   omega
 split at h
 ·exact ho _ (Nat.le_refl _) h
 split at h
 ·exact hc _ (by rw [List.length_drop,List.length_cons];omega) h
 split at h
 ·exact hp _ _ (by decide) (by rw [List.length_drop,List.length_cons];omega) h
 split at h
 ·exact hp _ _ (by decide) (by rw [List.length_cons];omega) h
 ·cases h
theorem here_tag {c : UInt8} {t u : Bs} {k : Tok} (h : hereAt (c :: t) = .tag k u) : u.length≤t.length:=by
 unfold hereAt at h
 have ho : ∀ r : Bs,r.length≤t.length→openAt r = .tag k u→u.length≤t.length:=by
  intro r hr h
  unfold openAt at h
  have h0:=dropWhile_le tagStop r
  simp only at h
  split at h
  ·cases h
  ·rename_i l rest ha
   split at h
   ·injection h with h h';subst h'
    have:=attrsN_lt _ _ _ _ _ ha
    omega
   ·cases h
 have hc : ∀ r : Bs,r.length≤t.length→closeAt r = .tag k u→u.length≤t.length:=by
  intro r hr h
  unfold closeAt at h
  have h0:=dropWhile_le tagStop r
  simp only at h
  split at h
  ·cases h
  ·rename_i rest ha
   split at h
   ·injection h with h h';subst h'
    have:=behind_lt (by decide) ha
    omega
   ·cases h
 have hp : ∀ (p r : Bs),passAt p r ≠ .tag k u:=by
  intro p r h
  unfold passAt at h
  split at h <;> cases h
 split at h
 ·exact ho _ (Nat.le_refl _) h
 split at h
 ·exact hc _ (by rw [List.length_drop,List.length_cons];omega) h
 split at h
 ·exact absurd h (hp _ _)
 split at h
 ·exact absurd h (hp _ _)
 ·cases h
theorem toksN_fuel : ∀ (n m : Nat) (r text : Bs) (out : List Tok),r.length≤n→r.length≤m→toksN n r text out = toksN m r text out:=by
 intro n
 induction n with
 | zero =>
  intro m r text out h _
  have : r = []:=List.eq_nil_of_length_eq_zero (by omega)
  subst this
  cases m <;> rfl
 | succ n ih =>
  intro m r text out h hm
  cases r with
  | nil=>cases m <;> rfl
  | cons c t =>
   rw [List.length_cons] at h hm
   cases m with
   | zero=>omega
   | succ m =>
    simp only [toksN]
    split
    ·cases hh : hereAt (c :: t) with
     | text=>exact ih m t _ _ (by omega) (by omega)
     | stop=>rfl
     | gone u=>have:=here_gone hh;exact ih m u _ _ (by omega) (by omega)
     | tag k u=>have:=here_tag hh;exact ih m u _ _ (by omega) (by omega)
    ·exact ih m t _ _ (by omega) (by omega)
def toksR (r text : Bs) (out : List Tok) : List Tok:=toksN r.length r text out
theorem toksR_nil (text : Bs) (out : List Tok) : toksR [] text out = flush text out:=rfl
theorem toksR_plain (c : UInt8) (t text : Bs) (out : List Tok) (h : c ≠ 60) : toksR (c :: t) text out = toksR t (text++[c]) out:=by
 show toksN (t.length + 1) (c :: t) text out = _
 simp only [toksN];rw [if_neg h];rfl
theorem toksR_here (t text : Bs) (out : List Tok) : toksR (60 :: t) text out = (match hereAt (60 :: t) with
  | .text=>toksR t (text++[60]) out
  | .stop=>flush (text++60 :: t) out
  | .gone u=>toksR u text out
  | .tag k u=>toksR u [] (flush text out++[k])):=by
 show toksN (t.length + 1) (60 :: t) text out = _
 simp only [toksN];rw [if_pos trivial]
 cases hh : hereAt (60 :: t) with
 | text=>rfl
 | stop=>rfl
 | gone u=>exact toksN_fuel _ _ u _ _ (here_gone hh) (Nat.le_refl _)
 | tag k u=>exact toksN_fuel _ _ u _ _ (here_tag hh) (Nat.le_refl _)
theorem toksR_run : ∀ (r text : Bs) (out : List Tok),toksR r text out = toksR (r.dropWhile (fun c=>c != 60)) (text++r.takeWhile (fun c=>c != 60)) out
 | [],text,out=>by simp
 | c :: t,text,out=>by
  by_cases h : c = 60
  ·subst h
   simp
  ·have hb : (c != 60) = true:=bne_iff_ne.2 h
   rw [toksR_plain c t text out h,List.dropWhile_cons,List.takeWhile_cons,hb]
   simp only [if_true]
   rw [toksR_run t (text++[c]) out]
   simp
theorem pre60 (r : Bs) : Mg.pre [60] r = headIs (fun c=>c == 60) r:=by
 cases r with
 | nil=>rfl
 | cons c t=>simp [Mg.pre,headIs]
end Mk
namespace Go.Proofs.YteidgdpaolieaaaGreatDoor
open Go.RowKit
/-- tokens that nobody else will write. -/
theorem RdO.toks {w : World} {B R : Nat} {s : ByteArray} {k : Nat} {tx : List UInt8} {ts : List Mk.Tok} {ov : Value} {xs : List Value} (h : RdO w B R s k tx ts ov xs) (hl : ts.length≤maxLen) : ToksV w (fun b=>B≤b∧b < w.heap.size) ov ts:=by
 obtain ⟨ao,cap,h1,h2,h3⟩:=RowAt.of_own (K:=fun b=>B≤b∧b < w.heap.size) h.own (fun g hg=>h.own.lt g hg)
 exact ⟨ao,cap,xs,h1,h2,h.cells.frame (fun b hb=>⟨⟨hb.1,hb.lt⟩,rfl⟩),h3.2⟩

theorem step_next {w : World} {B R : Nat} {s : ByteArray} {k : Nat} {tx : List UInt8} {ts : List Mk.Tok} (h : StepOk B R s k tx ts w) (hk : k < s.size) (htx : tx.length≤k) (hts : ts.length≤2 * k) :
  ∃ k' tx' ts',k < k'∧k'≤s.size∧tx'.length≤k'∧ts'.length≤2 * k'∧Mk.toksR (s.data.toList.drop k) tx ts = Mk.toksR (s.data.toList.drop k') tx' ts'∧RdS w B R s k' tx' ts':=by
 unfold StepOk at h
 split at h
 ·rename_i hp
  have hc : s[k] = 60:=by
   rw [Mk.pre60,bs_drop s k hk] at hp
   have hp : (s[k] == 60) = true:=hp
   exact beq_iff_eq.1 hp
  have hd : s.data.toList.drop k = 60 :: s.data.toList.drop (k + 1):=by rw [bs_drop s k hk,hc]
  have he:=Mk.toksR_here (s.data.toList.drop (k + 1)) tx ts
  rw [← hd] at he
  cases hh : Mk.hereAt (s.data.toList.drop k) with
  | text =>
   rw [hh] at h he
   exact ⟨k + 1,_,_,by omega,by omega,by rw [List.length_append,List.length_singleton];omega,by omega,he,h⟩
  | stop=>rw [hh] at h;exact h.elim
  | gone r =>
   rw [hh] at h he
   obtain ⟨j,h1,h2,h3,h4⟩:=h
   exact ⟨j,_,_,h2,h1,by omega,by omega,by rw [he,h3],h4⟩
  | tag t r =>
   rw [hh] at h he
   obtain ⟨j,h1,h2,h3,h4⟩:=h
   have:=flush_len tx ts
   exact ⟨j,_,_,h2,h1,Nat.zero_le _,by rw [List.length_append,List.length_singleton];omega,by rw [he,h3],h4⟩
 ·rename_i hp
  have hne : s[k] ≠ 60:=by
   intro e
   apply hp
   rw [Mk.pre60,bs_drop s k hk]
   exact beq_iff_eq.2 e
  have h1 : 0 < ((s.data.toList.drop k).takeWhile (fun c=>c != 60)).length:=by
   rw [bs_drop s k hk,List.takeWhile_cons,show (s[k] != 60) = true from bne_iff_ne.2 hne];simp
  have h2:=adv_le s k (by omega) (fun c=>c != 60)
  exact ⟨_,_,_,by omega,h2,by rw [List.length_append];omega,by omega,by rw [Mk.toksR_run,← adv s k],h⟩

set_option maxHeartbeats 4000000 in
set_option maxRecDepth 100000 in
theorem mk_All (s : ByteArray) (w : World) (hg : Gl w) (hs : s.size≤300000) :
  Calls Tryz.prog 51 #[.string s] w fun e w'=>∃ v,e = .returned v∧ToksV w' (fun b=>w.heap.size≤b∧b < w'.heap.size) v (Mk.toks s.data.toList)∧Below w.heap.size w w':=by
 have hlt:=hg.lt
 have hb0:=(Below.refl _ w).alloc (Nat.le_refl _) (.cells #[.string s,.int .i64 0,.string ⟨#[]⟩,.slice none 0 0] 102)
 have RD0 : Hid (RdS (w.alloc (.cells #[.string s,.int .i64 0,.string ⟨#[]⟩,.slice none 0 0] 102)) w.heap.size w.heap.size s 0 [] []) :=
  ⟨.slice none 0 0,[],⟨hlt,Nat.le_refl _,Blk.new w _ _,World.ownsRow_nil _ _ _ _,rfl,by simp [Value.ownBlock]⟩⟩
 have L0:=Lib.hid hb0
 clear hb0
 go_enter Tryz.func51,Tryz.ntmps51
 go_upto_block 0 with fail
 generalize w.alloc (.cells #[.string s,.int .i64 0,.string ⟨#[]⟩,.slice none 0 0] 102) = w0 at RD0 L0 ⊢
 go_cut [] (fun wx=>∃ k tx ts,tx.length≤600000∧ts.length≤600000∧Hid (Mk.toks s.data.toList = Mk.flush tx ts)∧Hid (RdS wx w.heap.size w.heap.size s k tx ts)∧Hid (Below w.heap.size w wx))
 case first =>
  go_wp2_with fail
  go_loopw [14] (fun _ wr=>∃ k tx ts,k≤s.size∧tx.length≤k∧ts.length≤2 * k∧Hid (Mk.toks s.data.toList = Mk.toksR (s.data.toList.drop k) tx ts)∧Hid (RdS wr w.heap.size w.heap.size s k tx ts)∧Hid (Below w.heap.size w wr)) (fun _ wr=>s.size - atOf wr w.heap.size)
  case atStart=>exact ⟨0,[],[],Nat.zero_le _,Nat.le_refl _,Nat.zero_le _,rfl,RD0.out,L0.out⟩
  case round =>
   obtain ⟨k,tx,ts,hk,htx,hts,HA,RD,BL⟩:=hrel
   have hrd : ∃ ov,Rd wr w.heap.size s k tx ov:=by obtain ⟨ov,xs,h⟩:=RD.out;exact ⟨ov,h.rd⟩
   obtain ⟨ov,hrd⟩:=hrd
   have c1:=hrd.c1
   have HAT:=Lib.hid hrd.atOf
   clear hrd
   by_cases hks : k < s.size
   ·have hg1:=hg.below BL.out hlt
    have HT:=Lib.hid (rd_try hg1 RD.out hks (by omega) (by omega) (by omega))
    clear hg1
    go_wp2_with fail
    refine HT.out.mono ?_
    rintro e w1 ⟨⟨rfl,hno⟩ | ⟨rfl,hok⟩,hb1⟩
    ·have BL1:=Lib.hid (BL.out.trans hb1)
     obtain ⟨hp,hh,j,hrs⟩:=hno
     have hc : s[k] = 60:=by
      rw [Mk.pre60,bs_drop s k hks] at hp
      have hp : (s[k] == 60) = true:=hp
      exact beq_iff_eq.1 hp
     have hd : s.data.toList.drop k = 60 :: s.data.toList.drop (k + 1):=by rw [bs_drop s k hks,hc]
     have HF : Hid (Mk.toks s.data.toList = Mk.flush (tx++s.data.toList.drop k) ts):=by
      show _ = _
      rw [HA.out,hd,Mk.toksR_here,← hd,hh]
     obtain ⟨ov1,xs1,ho⟩:=hrs
     have HO:=Lib.hid ho
     have c2:=ho.rd.c2
     have f2:=ho.rd.fz 2
     have hdl : (s.data.toList.drop k).length≤300000:=by rw [List.length_drop,bs_len];omega
     have hex : s.extract k s.size = st (s.data.toList.drop k):=by rw [extract_st,List.take_of_length_le (by rw [List.length_drop,bs_len];omega)]
     have HEX:=Lib.hid hex
     have q1 : ¬ 9223372036854775807 < (st tx).size + (s.size - k):=by rw [st_size];omega
     have hki : (k : Int)≤s.size:=by omega
     clear HT hb1 hp hh hc hd ho hex c1 HA RD BL
     go_wp2_with fail
     go_region
     all_goals
      rw [HEX.out,show st tx++st (s.data.toList.drop k) = st (tx++s.data.toList.drop k) from app_st (st tx) (st (s.data.toList.drop k))]
      have HO2:=Lib.hid (HO.out.setText (tx++s.data.toList.drop k))
      have BL2:=Lib.hid (BL1.out.setCell (p:=⟨w.heap.size,2,none⟩) (Nat.le_refl _) (.string (st (tx++s.data.toList.drop k))))
      go_wp2_with fail
      go_meet
      case rel=>exact ⟨j,_,ts,by rw [List.length_append];omega,by omega,HF,⟨_,_,HO2.out.below ((Below.refl _ _).drew)⟩,BL2.out.drew⟩
    ·obtain ⟨k',tx',ts',h1,h2,h3,h4,h5,h6⟩:=step_next hok hks htx hts
     have HA1 : Hid (Mk.toks s.data.toList = Mk.toksR (s.data.toList.drop k') tx' ts'):=by show _ = _;rw [HA.out,h5]
     have RD1:=Lib.hid h6
     have BL1:=Lib.hid (BL.out.trans hb1)
     have hat : atOf w1 w.heap.size = k':=by obtain ⟨_,_,h⟩:=h6;exact h.rd.atOf
     have HAT1:=Lib.hid hat
     clear HT hb1 hok h5 h6 hat HA RD BL
     go_wp2_with fail
     go_roundw
     case rel=>exact ⟨k',tx',ts',h2,h3,h4,HA1,RD1,BL1⟩
     case measure=>rw [HAT.out,HAT1.out];omega
   ·have hke : k = s.size:=by omega
    have HF : Hid (Mk.toks s.data.toList = Mk.flush tx ts):=by
     show _ = _
     rw [HA.out,List.drop_of_length_le (by simp;omega)];rfl
    clear HA
    go_wp2_with fail
    go_meet
    case rel=>exact ⟨k,tx,ts,by omega,by omega,HF,RD,BL⟩
 case rest =>
  obtain ⟨k,tx,ts,htx,hts,HF,RD,BL⟩:=hcut
  have hg1:=hg.below BL.out hlt
  obtain ⟨ov,xs,h⟩:=RD.out
  have HFL:=Lib.hid (rd_flush hg1 h (by omega) (by omega))
  clear hg1 h
  go_wp2_with fail
  refine HFL.out.mono ?_
  rintro e w1 ⟨rfl,⟨ov1,xs1,h1⟩,hb1,_⟩
  have c3:=h1.rd.c3
  have hfl:=flush_len tx ts
  have hty:=h1.toks (by unfold maxLen;omega)
  rw [← HF.out] at hty
  have HTY:=Lib.hid hty
  have BL1:=Lib.hid (BL.out.trans hb1)
  clear HFL h1 hb1 hty
  go_wp2_with fail
  go_ret
  exact ⟨_,rfl,HTY.out,BL1.out⟩
end Go.Proofs.YteidgdpaolieaaaGreatDoor

/- Contracts of the reference's IsName, nextOf, row. -/
namespace Mk
/-- the first place of a text. -/
def nxt (p : Bs) : Bs→Option Nat
 | []=>if p = [] then some 0 else none
 | c :: t=>if Mg.pre p (c :: t) = true then some 0 else (nxt p t).map (· + 1)
theorem nxt_short (p : Bs) : ∀ l : Bs,l.length < p.length→nxt p l = none
 | [],h=>by
  unfold nxt
  rw [if_neg (by rintro rfl;simp at h)]
 | c :: t,h=>by
  unfold nxt
  rw [if_neg (by rw [Mg.pre_short p _ h];decide),nxt_short p t (by rw [List.length_cons] at h;omega)]
  rfl
theorem behind_nxt (p : Bs) : ∀ l : Bs,behind p l = (nxt p l).map fun i=>l.drop (i + p.length)
 | []=>by
  unfold behind nxt
  by_cases h : p = []
  ·rw [if_pos h,if_pos h];simp
  ·rw [if_neg h,if_neg h];rfl
 | c :: t=>by
  unfold behind nxt
  by_cases h : Mg.pre p (c :: t) = true
  ·rw [if_pos h,if_pos h];simp
  ·rw [if_neg h,if_neg h,behind_nxt p t]
   cases nxt p t with
   | none=>rfl
   | some i =>
    show some (t.drop (i + p.length)) = some ((c :: t).drop (i + 1 + p.length))
    rw [show i + 1 + p.length = (i + p.length) + 1 by omega,List.drop_succ_cons]
theorem nxt_le (p : Bs) : ∀ (l : Bs) (i : Nat),nxt p l = some i→i + p.length≤l.length
 | [],i,h=>by
  unfold nxt at h
  split at h
  ·rename_i hp
   injection h with h
   rw [← h,hp]
   exact Nat.le_refl _
  ·cases h
 | c :: t,i,h=>by
  unfold nxt at h
  split at h
  ·rename_i hp
   injection h with h
   have:=pre_le hp
   rw [← h]
   omega
  ·cases hn : nxt p t with
   | none=>rw [hn] at h;cases h
   | some j =>
    rw [hn] at h
    injection h with h
    have h : j + 1 = i:=h
    have:=nxt_le p t j hn
    rw [← h,List.length_cons]
    omega
def optInt : Option Nat→Int | none=>-1 | some i=>(i : Int)
theorem nameAll_off (l : Bs) (k : Nat) (h : k < l.length) (b : Bool) : nameAll b (l.drop k) = ((small l[k] || (!b && (Mg.isDig l[k] || l[k] == 45))) && nameAll false (l.drop (k + 1))):=by
 rw [List.drop_eq_getElem_cons h,nameAll]
theorem digb_iff (c : UInt8) : (Mg.isDig c || c == 45) = true ↔ ((48≤(c.toNat : Int)∧(c.toNat : Int)≤57) ∨ (c.toNat : Int) = 45):=Mg.all256 (fun c=>(Mg.isDig c || c == 45) = true ↔ ((48≤(c.toNat : Int)∧(c.toNat : Int)≤57) ∨ (c.toNat : Int) = 45)) (by decide +kernel) c
end Mk
namespace Go.Proofs.YteidgdpaolieaaaGreatDoor
open Go.RowKit
set_option maxHeartbeats 1600000 in
set_option maxRecDepth 100000 in
theorem rf_nextOf (s p : List UInt8) (k : Nat) (w : World) (hk : k≤s.length) (hs : s.length≤1048576) (hp : p.length≤1048576) :
  Calls Tryz.prog 96 #[.string (st s),.int .i64 k,.string (st p)] w fun e w'=>e = .returned (.int .i64 (Mk.optInt ((Mk.nxt p (s.drop k)).map (· + k))))∧w' = w:=by
 have e1 : (st s).size = s.length:=st_size s
 have e2 : (st p).size = p.length:=st_size p
 have hst : ∀ l : List UInt8,(st l).toList = l:=fun l=>Lib.toList_data _
 have hsa:=fun j (hj : j≤s.length) W=>ref_startsAt (st s) (st p) j W (by rw [e1];exact hj) (by omega) (by omega)
 rw [show (st s).data.toList = s from rfl,show (st p).data.toList = p from rfl] at hsa
 have HSA:=Lib.hid hsa
 clear hsa
 go_enter Tryz.func96,Tryz.ntmps96
 go_wp2_with fail
 go_loopw [1] (fun i wr=>∃ j : Nat,k≤j∧j≤s.length∧i = .int .i64 j∧Hid ((Mk.nxt p (s.drop k)).map (· + k) = (Mk.nxt p (s.drop j)).map (· + j))∧wr = w) (fun i _=>s.length + 1 - (intOf i).toNat)
 case atStart=>exact ⟨k,Nat.le_refl _,hk,rfl,rfl,rfl⟩
 case round =>
  obtain ⟨j,hkj,hj,rfl,HN,rfl⟩:=hrel
  by_cases hlt : j + p.length≤s.length
  ·have hlti : (j : Int) + p.length≤s.length:=by omega
   go_wp2_with fail
   refine (HSA.out j hj _).mono ?_
   rintro e w2 ⟨rfl,rfl⟩
   by_cases hpr : Mg.pre p (s.drop j) = true
   ·have HE : Hid ((Mk.nxt p (s.drop k)).map (· + k) = some j):=by
     show _ = _
     rw [HN.out]
     cases hd : s.drop j with
     | nil =>
      rw [hd] at hpr
      have:=Mk.pre_le hpr
      have hp0 : p = []:=List.eq_nil_of_length_eq_zero (by simpa using this)
      subst hp0
      show some (0 + j) = some j
      rw [Nat.zero_add]
     | cons c t =>
      rw [hd] at hpr
      unfold Mk.nxt
      rw [if_pos hpr]
      show some (0 + j) = some j
      rw [Nat.zero_add]
    clear HN
    go_wp2_with fail
    go_ret
    exact ⟨by rw [HE.out];rfl,rfl⟩
   ·have hpf : Mg.pre p (s.drop j) = false:=by simpa using hpr
    by_cases hje : j = s.length
    ·exfalso
     subst hje
     have : p = []:=List.eq_nil_of_length_eq_zero (by omega)
     subst this
     simp [Mg.pre] at hpf
    have HE : Hid ((Mk.nxt p (s.drop k)).map (· + k) = (Mk.nxt p (s.drop (j + 1))).map (· + (j + 1))):=by
     show _ = _
     rw [HN.out,List.drop_eq_getElem_cons (show j < s.length by omega)]
     rw [List.drop_eq_getElem_cons (show j < s.length by omega)] at hpf
     rw [Mk.nxt,if_neg (by rw [hpf];decide),Option.map_map]
     congr 1
     funext i
     show i + 1 + j = i + (j + 1)
     omega
    clear HN hpr
    go_wp2_with fail
    go_roundw
    case rel=>exact ⟨j + 1,by omega,by omega,by go_num,HE.out,trivial⟩
    case measure=>simp [intOf];omega
  ·have hlti : ¬ (j : Int) + p.length≤s.length:=by omega
   have HE : Hid ((Mk.nxt p (s.drop k)).map (· + k) = none):=by
    show _ = _
    rw [HN.out,Mk.nxt_short p _ (by rw [List.length_drop];omega)]
    rfl
   clear HN
   go_wp2_with fail
   go_ret
   exact ⟨by rw [HE.out];rfl,rfl⟩
theorem ref_btw (n lo hi : Int) (b : Bool) (h : decide (lo≤n∧n≤hi) = b) (W : World) : Calls Tryz.prog 110 #[.int .i64 n,.int .i64 lo,.int .i64 hi] W fun e w'=>e = .returned (.bool b)∧W = w':=by
 rw [← h]
 exact ref_between n lo hi W
set_option maxHeartbeats 3200000 in
set_option maxRecDepth 100000 in
theorem rf_IsName (s : List UInt8) (w : World) (hs : s.length≤9223372036854775807) :
  Calls Tryz.prog 68 #[.string (st s)] w fun e w'=>e = .returned (.bool (Mk.isName s))∧w' = w:=by
 have e1 : (st s).size = s.length:=st_size s
 have hst : ∀ l : List UInt8,(st l).toList = l:=fun l=>Lib.toList_data _
 by_cases hlen : 1≤s.length∧s.length≤20
 ·have HN : Hid (Mk.isName s = Mk.nameAll true s):=by
   show _ = _
   unfold Mk.isName
   have : s ≠ []:=by rintro rfl;simp at hlen
   simp [this,hlen.2]
  have hl1 : (1 : Int)≤s.length:=by omega
  have hl2 : (s.length : Int)≤20:=by omega
  go_enter Tryz.func68,Tryz.ntmps68
  go_wp2_with (go_at_call 110;refine (ref_between _ _ _ _).mono ?_;rintro e w' ⟨rfl,rfl⟩)
  all_goals (try (exfalso;omega))
  go_loopw [3] (fun i wr=>∃ k : Nat,k≤s.length∧i = .int .i64 k∧Hid (Mk.isName s = Mk.nameAll (k == 0) (s.drop k))∧wr = w) (fun i _=>s.length - (intOf i).toNat)
  case atStart=>exact ⟨0,Nat.zero_le _,rfl,HN.out,rfl⟩
  case round =>
   clear HN
   obtain ⟨k,hk,rfl,HN,rfl⟩:=hrel
   by_cases hlt : k < s.length
   ·have hoff:=Mk.nameAll_off s k hlt (k == 0)
    obtain ⟨x,hx⟩ : ∃ x,s[k] = x:=⟨_,rfl⟩
    have hget : ∀ h,(st s)[k]'h = x:=fun _=>hx
    rw [hx] at hoff
    have hb : (x.toNat : Int)≤255:=by have:=x.toNat_lt;omega
    have HO : Hid (Mk.isName s = ((Mk.small x || (!(k == 0) && (Mg.isDig x || x == 45))) && Mk.nameAll false (s.drop (k + 1)))):=by show _ = _;rw [HN.out,hoff]
    have HS:=Lib.hid (Mk.small_iff x)
    have HD:=Lib.hid (Mk.digb_iff x)
    clear hoff hx HN
    by_cases c1 : Mk.small x = true
    ·have B1:=Lib.hid (ref_btw (x.toNat : Int) 97 122 true (decide_eq_true (HS.out.1 c1)))
     have HR : Hid (Mk.isName s = Mk.nameAll (k + 1 == 0) (s.drop (k + 1))):=by show _ = _;rw [HO.out,c1];simp
     clear HO c1 HS HD
     go_wp2_with fail
     refine (B1.out _).mono ?_
     rintro e w2 ⟨rfl,rfl⟩
     go_wp2_with fail
     go_roundw
     case rel=>exact ⟨k + 1,by omega,by go_num,HR.out,trivial⟩
     case measure=>simp [intOf];omega
    ·have B1:=Lib.hid (ref_btw (x.toNat : Int) 97 122 false (decide_eq_false (fun q=>c1 (HS.out.2 q))))
     have c1 : Mk.small x = false:=by simpa using c1
     by_cases k0 : k = 0
     ·subst k0
      have HE : Hid (Mk.isName s = false):=by show _ = _;rw [HO.out,c1];rfl
      clear HO c1 HS HD
      go_wp2_with fail
      refine (B1.out _).mono ?_
      rintro e w2 ⟨rfl,rfl⟩
      go_wp2_with fail
      go_ret
      exact ⟨by rw [HE.out];rfl,rfl⟩
     have kb : ((k : Int) == 0) = false:=by rw [beq_eq_false_iff_ne];omega
     have kb2 : (k == 0) = false:=by rw [beq_eq_false_iff_ne];exact k0
     by_cases c2 : (Mg.isDig x || x == 45) = true
     ·have HR : Hid (Mk.isName s = Mk.nameAll (k + 1 == 0) (s.drop (k + 1))):=by show _ = _;rw [HO.out,c1,c2,kb2];simp
      rcases HD.out.1 c2 with q | q
      ·have B2:=Lib.hid (ref_btw (x.toNat : Int) 48 57 true (decide_eq_true q))
       clear HO c1 HS HD c2 kb2 k0 q
       go_wp2_with fail
       refine (B1.out _).mono ?_
       rintro e w2 ⟨rfl,rfl⟩
       go_wp2_with fail
       refine (B2.out _).mono ?_
       rintro e w2 ⟨rfl,rfl⟩
       go_wp2_with fail
       go_roundw
       case rel=>exact ⟨k + 1,by omega,by go_num,HR.out,trivial⟩
       case measure=>simp [intOf];omega
      ·have B2:=Lib.hid (ref_btw (x.toNat : Int) 48 57 false (decide_eq_false (by omega)))
       have q2 : ((x.toNat : Int) == 45) = true:=by rw [beq_iff_eq];exact q
       clear HO c1 HS HD c2 kb2 k0 q
       go_wp2_with fail
       refine (B1.out _).mono ?_
       rintro e w2 ⟨rfl,rfl⟩
       go_wp2_with fail
       refine (B2.out _).mono ?_
       rintro e w2 ⟨rfl,rfl⟩
       go_wp2_with fail
       go_roundw
       case rel=>exact ⟨k + 1,by omega,by go_num,HR.out,trivial⟩
       case measure=>simp [intOf];omega
     ·have HE : Hid (Mk.isName s = false):=by show _ = _;rw [HO.out,c1,kb2,show (Mg.isDig x || x == 45) = false by simpa using c2];rfl
      have q:=fun h=>c2 (HD.out.2 h)
      have B2:=Lib.hid (ref_btw (x.toNat : Int) 48 57 false (decide_eq_false (fun h=>q (.inl h))))
      have q2 : ((x.toNat : Int) == 45) = false:=by rw [beq_eq_false_iff_ne];exact fun h=>q (.inr h)
      clear HO c1 HS HD c2 kb2 k0 q
      go_wp2_with fail
      refine (B1.out _).mono ?_
      rintro e w2 ⟨rfl,rfl⟩
      go_wp2_with fail
      refine (B2.out _).mono ?_
      rintro e w2 ⟨rfl,rfl⟩
      go_wp2_with fail
      go_ret
      exact ⟨by rw [HE.out];rfl,rfl⟩
   ·have hke : k = s.length:=by omega
    have HE : Hid (Mk.isName s = true):=by
     show _ = _
     rw [HN.out,List.drop_of_length_le (by omega)]
     rfl
    clear HN
    go_wp2_with fail
    go_ret
    exact ⟨by rw [HE.out];rfl,rfl⟩
 ·have HN : Hid (Mk.isName s = false):=by
   show _ = _
   unfold Mk.isName
   by_cases h0 : s = []
   ·simp [h0]
   ·have : ¬ s.length≤20:=by
     intro q
     exact hlen ⟨by cases s with | nil=>exact absurd rfl h0 | cons _ _=>simp,q⟩
    simp [this]
  have hlen' : ¬ (1≤(s.length : Int)∧(s.length : Int)≤20):=by omega
  clear hlen
  go_enter Tryz.func68,Tryz.ntmps68
  go_wp2_with (go_at_call 110;refine (ref_between _ _ _ _).mono ?_;rintro e w' ⟨rfl,rfl⟩)
  all_goals (go_ret;exact ⟨by rw [HN.out];rfl,rfl⟩)
end Go.Proofs.YteidgdpaolieaaaGreatDoor

/- Contracts of the small functions of trees and of what is clean: names of elements. No condition. -/
namespace Go.Proofs.YteidgdpaolieaaaGreatDoor
open Go.RowKit
set_option maxHeartbeats 1000000 in
theorem tr_Empty (n : List UInt8) (w : World) :
  Calls Tryz.prog 109 #[.string (st n)] w fun e w'=>e = .returned (.bool (Mk.emptyB n))∧w' = w:=by
 have hst : (st n).toList = n:=Lib.toList_data _
 go_enter Tryz.func109,Tryz.ntmps109
 go_wp2_with fail
 all_goals (go_ret;refine ⟨ret_bool ?_,rfl⟩;first | rfl | (simp [Mk.emptyB, *];done) | trace_state)
set_option maxHeartbeats 1000000 in
theorem tr_wall (n : List UInt8) (w : World) :
  Calls Tryz.prog 140 #[.string (st n)] w fun e w'=>e = .returned (.bool (Mk.wallB n))∧w' = w:=by
 have hst : (st n).toList = n:=Lib.toList_data _
 go_enter Tryz.func140,Tryz.ntmps140
 go_wp2_with fail
 all_goals (go_ret;refine ⟨ret_bool ?_,rfl⟩;first | rfl | (simp [Mk.wallB,Mk.listB, *];done) | trace_state)
set_option maxHeartbeats 1000000 in
theorem tr_block (n : List UInt8) (w : World) :
  Calls Tryz.prog 139 #[.string (st n)] w fun e w'=>e = .returned (.bool (Mk.blockB n))∧w' = w:=by
 have hst : (st n).toList = n:=Lib.toList_data _
 have hw:=fun W=>tr_wall n W
 have hb : Mk.blockB n = (Mk.wallB n || n == [112] || n == [104,114]):=rfl
 generalize Mk.wallB n = a at hw hb
 have HW:=Lib.hid hw
 have HB:=Lib.hid hb
 clear hw hb
 go_enter Tryz.func139,Tryz.ntmps139
 go_wp2_with (go_at_call 140;refine (HW.out _).mono ?_;rintro e w' ⟨rfl,rfl⟩)
 all_goals (go_ret;refine ⟨ret_bool ?_,rfl⟩;rw [HB.out];first | rfl | (simp [*];done))
set_option maxHeartbeats 1000000 in
theorem tr_list (n : List UInt8) (w : World) :
  Calls Tryz.prog 141 #[.string (st n)] w fun e w'=>e = .returned (.bool (Mk.listB n))∧w' = w:=by
 have hst : (st n).toList = n:=Lib.toList_data _
 go_enter Tryz.func141,Tryz.ntmps141
 go_wp2_with fail
 all_goals (go_ret;refine ⟨ret_bool ?_,rfl⟩;first | rfl | (simp [Mk.listB, *];done))
theorem tr_none (n : List UInt8) (w : World) :
  Calls Tryz.prog 130 #[.string (st n)] w fun e w'=>e = .returned (.bool false)∧w' = w:=by
 go_enter Tryz.func130,Tryz.ntmps130
 go_wp2_with fail
 go_ret
 exact ⟨rfl,rfl⟩
set_option maxHeartbeats 1000000 in
theorem cl_link (n : List UInt8) (w : World) :
  Calls Tryz.prog 62 #[.string (st n)] w fun e w'=>e = .returned (.bool (Mk.linkB n))∧w' = w:=by
 have hst : (st n).toList = n:=Lib.toList_data _
 go_enter Tryz.func62,Tryz.ntmps62
 go_wp2_with fail
 all_goals (go_ret;refine ⟨ret_bool ?_,rfl⟩;first | rfl | (simp [Mk.linkB, *];done))
set_option maxHeartbeats 1000000 in
theorem cl_gone (n : List UInt8) (w : World) :
  Calls Tryz.prog 132 #[.string (st n)] w fun e w'=>e = .returned (.bool (Mk.goneB n))∧w' = w:=by
 have hst : (st n).toList = n:=Lib.toList_data _
 go_enter Tryz.func132,Tryz.ntmps132
 go_wp2_with fail
 all_goals (go_ret;refine ⟨ret_bool ?_,rfl⟩;first | rfl | (simp [Mk.goneB, *];done))
end Go.Proofs.YteidgdpaolieaaaGreatDoor

/- Contracts of the program's above and stays: elements that stand in one another. Condition: at most 33554432 of them. -/
namespace Mk
theorem above_nil (x : Bs) (q : Bs→Bool) (l : List Bs) : above x q (l.take 0) = none:=by simp [above,aboveR]
theorem above_take (x : Bs) (q : Bs→Bool) (l : List Bs) (k : Nat) (h : k < l.length) : above x q (l.take (k + 1)) = if l[k] = x then some k else if q l[k] then none else above x q (l.take k):=by
 unfold above
 rw [List.take_succ_eq_append_getElem h,List.reverse_append]
 show aboveR x q (l[k] :: (l.take k).reverse) = _
 rw [aboveR,List.length_reverse,List.length_take,Nat.min_eq_left (by omega)]
theorem above_lt (x : Bs) (q : Bs→Bool) (l : List Bs) (i : Nat) (h : above x q l = some i) : i < l.length:=by
 have key : ∀ k,k≤l.length→above x q (l.take k) = some i→i < k:=by
  intro k
  induction k with
  | zero=>intro _ h;rw [above_nil] at h;cases h
  | succ k ih =>
   intro hk h
   rw [above_take x q l k (by omega)] at h
   split at h
   ·injection h with h;omega
   split at h
   ·cases h
   ·have:=ih (by omega) h;omega
 exact key l.length (Nat.le_refl _) (by rw [List.take_length];exact h)
end Mk
namespace Go.Proofs.YteidgdpaolieaaaGreatDoor
open Go.RowKit
def strVs (l : List (List UInt8)) : List Value:=l.map fun x=>.string (st x)
/-- texts in a row. -/
def StrsV (w : World) (K : Nat→Prop) (v : Value) (l : List (List UInt8)) : Prop:=∃ ao cap,v = .slice ao l.length cap∧l.length≤cap∧RowAt w K ao (strVs l)∧cap≤maxLen
theorem StrsV.frame {w w' : World} {K K' : Nat→Prop} {v : Value} {l : List (List UInt8)} (h : StrsV w K v l) (hk : ∀ b,K b→K' b∧w'.heap[b]? = w.heap[b]?) : StrsV w' K' v l:=by
 obtain ⟨ao,cap,h1,h2,h3,h4⟩:=h
 exact ⟨ao,cap,h1,h2,h3.frame hk,h4⟩
theorem StrsV.nil (w : World) (K : Nat→Prop) : StrsV w K (.slice none 0 0) []:=⟨none,0,rfl,Nat.le_refl _,.inl rfl,Nat.zero_le _⟩
theorem StrsV.at_ {w : World} {K : Nat→Prop} {v : Value} {l : List (List UInt8)} (h : StrsV w K v l) : ∃ ao cap,v = .slice ao l.length cap∧l.length≤cap∧cap≤maxLen∧(l = [] ∨ ∃ g o,ao = some ⟨g,o,none⟩∧K g∧∀ k (hk : k < l.length),w.cell? ⟨g,o + k,none⟩ = some (.string (st l[k]))):=by
 obtain ⟨ao,cap,h1,h2,h3,h4⟩:=h
 refine ⟨ao,cap,h1,h2,h4,?_⟩
 rcases h3 with h3 | ⟨g,o,e1,e2,e3⟩
 ·left;simpa [strVs] using h3
 ·right
  exact ⟨g,o,e1,e2,fun k hk=>e3 k _ (by simp [strVs,List.getElem?_eq_getElem hk])⟩
theorem StrsV.take {w : World} {K : Nat→Prop} {ao : Option Addr} {cap : Nat} {l : List (List UInt8)} (h : StrsV w K (.slice ao l.length cap) l) (i : Nat) (hi : i≤l.length) : StrsV w K (.slice ao i cap) (l.take i):=by
 obtain ⟨ao',cap',h1,h2,h3,h4⟩:=h
 injection h1 with e1 e2 e3
 subst e1;subst e3
 refine ⟨ao,cap,by rw [List.length_take,Nat.min_eq_left hi],by rw [List.length_take];omega,?_,h4⟩
 rcases h3 with h3 | ⟨g,o,e1,e2,e3⟩
 ·left
  have : l = []:=by simpa [strVs] using h3
  subst this
  simp [strVs]
 ·refine .inr ⟨g,o,e1,e2,fun k v hk=>e3 k v ?_⟩
  unfold strVs at hk ⊢
  rw [List.map_take] at hk
  rw [List.getElem?_take] at hk
  split at hk
  ·exact hk
  ·cases hk
def optV : Option Nat→Value | none=>.int .i64 (-1) | some i=>.int .i64 i
/-- what a closure on texts answers: it only computes. -/
def AsksS (g : FuncId) (q : List UInt8→Bool) : Prop:=∀ (s : List UInt8) (w : World),Calls Tryz.prog g #[.string (st s)] w fun e w'=>e = .returned (.bool (q s))∧w' = w
set_option maxHeartbeats 1000000 in
theorem tr_above (g : FuncId) (q : List UInt8→Bool) (eg : ∀ args w,(callFunc g args).run Tryz.prog w = .ok (.enter g args) w) (hq : AsksS g q) (l : List (List UInt8)) (x : List UInt8) (v : Value) (K : Nat→Prop) (w : World) (hv : StrsV w K v l) (hl : l.length≤33554432) :
  Calls Tryz.prog 129 #[v,.string (st x),.func (.func g) #[] #[]] w fun e w'=>e = .returned (optV (Mk.above x q l))∧w' = w:=by
 obtain ⟨ao,cap,rfl,hcap,hcm,hat⟩:=hv.at_
 have HQ:=Lib.hid hq
 have HA:=Lib.hid hat
 clear hq hat hv
 go_enter Tryz.func129,Tryz.ntmps129
 go_wp2_with fail
 go_loopw [7] (fun i wr=>∃ k : Nat,k≤l.length∧i = .int .i64 ((k : Int) - 1)∧wr = w∧Hid (Mk.above x q l = Mk.above x q (l.take k))) (fun i _=>(intOf i + 1).toNat)
 case atStart=>exact ⟨l.length,Nat.le_refl _,by go_num,rfl,by show _ = _;rw [List.take_length]⟩
 case round =>
  obtain ⟨k,hk,rfl,rfl,HK⟩:=hrel
  cases k with
  | zero =>
   have HE : Hid (Mk.above x q l = none):=by show _ = _;rw [HK.out,Mk.above_nil]
   clear HK
   go_wp2_with fail
   go_ret
   exact ⟨by rw [HE.out];rfl,rfl⟩
  | succ k =>
   have hlt : k < l.length:=by omega
   rcases HA.out with h0 | ⟨b,o,hao,_,hcl⟩
   ·rw [h0] at hlt;simp at hlt
   subst hao
   have c0:=hcl k hlt
   have HX : Hid (Mk.above x q l = if l[k] = x then some k else if q l[k] then none else Mk.above x q (l.take k)):=by show _ = _;rw [HK.out,Mk.above_take x q l k hlt]
   have hst : ∀ l : List UInt8,(st l).toList = l:=fun l=>Lib.toList_data _
   have hki : (((k + 1 : Nat) : Int) - 1) = (k : Int):=by omega
   rw [hki]
   have hk0 : (0 : Int)≤k:=by omega
   have hkl : (k : Int) < l.length:=by omega
   generalize l[k] = n at c0 HX
   clear HK HA hcl hki
   by_cases hnx : n = x
   ·subst hnx
    have hb : (n == n) = true:=beq_self_eq_true n
    rw [if_pos rfl] at HX
    go_wp2_with fail
    go_ret
    exact ⟨by rw [HX.out];rfl,rfl⟩
   ·rw [if_neg hnx] at HX
    have hb : (n == x) = false:=beq_eq_false_iff_ne.2 hnx
    have hcall:=HQ.out n wr
    generalize q n = bq at hcall HX
    have HC:=Lib.hid hcall
    clear hcall
    cases bq with
    | true =>
     go_wp2_with fail
     refine HC.out.mono ?_
     rintro e w1 ⟨rfl,rfl⟩
     go_wp2_with fail
     go_ret
     exact ⟨by rw [HX.out];rfl,rfl⟩
    | false =>
     go_wp2_with fail
     refine HC.out.mono ?_
     rintro e w1 ⟨rfl,rfl⟩
     go_wp2_with fail
     go_roundw
     case rel=>exact ⟨k,by omega,by go_num,by trivial,by show _ = _;rw [HX.out];rfl⟩
     case measure=>simp [intOf]

theorem eg_wall (args : Array Value) (w : World) : (callFunc 140 args).run Tryz.prog w = .ok (.enter 140 args) w:=run_callFunc_enter' Tryz.func140 (by kernel_rfl) rfl _ _
theorem eg_list (args : Array Value) (w : World) : (callFunc 141 args).run Tryz.prog w = .ok (.enter 141 args) w:=run_callFunc_enter' Tryz.func141 (by kernel_rfl) rfl _ _
def stays1 (l : List (List UInt8)) (n : List UInt8) : List (List UInt8):=if Mk.blockB n then Mk.cutTo l (Mk.above [112] Mk.wallB l) else l
def stays2 (l : List (List UInt8)) (n : List UInt8) : List (List UInt8):=if n == [108,105] then Mk.cutTo l (Mk.above [108,105] Mk.listB l) else l
theorem stays_is (l : List (List UInt8)) (n : List UInt8) : Mk.stays l n = (stays2 (stays1 l n) n).length:=rfl
theorem cutTo_len (l : List (List UInt8)) (o : Option Nat) : (Mk.cutTo l o).length≤l.length:=by
 cases o with
 | none=>exact Nat.le_refl _
 | some k=>show (l.take k).length≤l.length;rw [List.length_take];exact Nat.min_le_right _ _
set_option maxHeartbeats 2000000 in
set_option maxRecDepth 100000 in
theorem tr_stays (l : List (List UInt8)) (n : List UInt8) (v : Value) (K : Nat→Prop) (w : World) (hv : StrsV w K v l) (hl : l.length≤33554432) :
  Calls Tryz.prog 116 #[v,.string (st n)] w fun e w'=>e = .returned (.int .i64 (Mk.stays l n))∧w' = w:=by
 have hst : (st n).toList = n:=Lib.toList_data _
 have HV:=Lib.hid hv
 have hll : (stays1 l n).length≤33554432:=by unfold stays1;split;exact Nat.le_trans (cutTo_len _ _) hl;exact hl
 clear hv
 go_enter Tryz.func116,Tryz.ntmps116
 go_wp2_with fail
 refine (tr_block n w).mono ?_
 rintro e w1 ⟨rfl,hw⟩
 subst hw
 go_upto_if 8 with fail
 go_cut [0] (fun v wx=>wx = w1∧Hid (StrsV w1 K v (stays1 l n)))
 case first =>
  cases hbl : Mk.blockB n with
  | false =>
   have HV1 : Hid (StrsV w1 K v (stays1 l n)):=by show StrsV _ _ _ _;rw [stays1,hbl];exact HV.out
   clear hbl
   go_wp2_with fail
   go_meet
   case rel=>exact ⟨rfl,HV1⟩
  | true =>
   have ha:=tr_above 140 Mk.wallB eg_wall tr_wall l [112] v K w1 HV.out hl
   obtain ⟨o,ho⟩ : ∃ o,Mk.above [112] Mk.wallB l = o:=⟨_,rfl⟩
   have h1 : stays1 l n = Mk.cutTo l o:=by rw [stays1,hbl,if_pos rfl,ho]
   have hlt:=Mk.above_lt [112] Mk.wallB l
   rw [ho] at ha hlt
   have HA:=Lib.hid ha
   have H1:=Lib.hid h1
   clear ha h1 hbl ho
   cases o with
   | none =>
    clear hlt
    go_wp2_with fail
    refine HA.out.mono ?_
    rintro e w2 ⟨rfl,hw⟩
    subst hw
    unfold optV
    go_wp2_with fail
    go_meet
    case rel=>exact ⟨rfl,by rw [H1.out];exact HV⟩
   | some i =>
    have hi:=hlt i rfl
    obtain ⟨ao,cap,rfl,hcap,hcm,_⟩:=HV.out.at_
    have HT:=Lib.hid (HV.out.take i (by omega))
    clear hlt
    go_wp2_with fail
    refine HA.out.mono ?_
    rintro e w2 ⟨rfl,hw⟩
    subst hw
    unfold optV
    have hi0 : (0 : Int)≤i:=by omega
    have hic : (i : Int)≤cap:=by omega
    go_wp2_with fail
    go_meet
    case rel=>exact ⟨rfl,by rw [H1.out];exact HT⟩
 case rest =>
  obtain ⟨hw,HV1⟩:=hcut
  subst hw
  have hs2:=stays_is l n
  generalize stays1 l n = l1 at HV1 hll hs2
  have HS2:=Lib.hid hs2
  clear hs2
  go_upto_if 17 with fail
  go_cut [0] (fun v wx=>wx = wc∧Hid (StrsV wc K v (stays2 l1 n)))
  case first =>
   cases hbl : (n == [108,105]) with
   | false =>
    have HV2 : Hid (StrsV wc K u0 (stays2 l1 n)):=by show StrsV _ _ _ _;rw [stays2,hbl];exact HV1.out
    clear HV
    go_wp2_with fail
    go_meet
    case rel=>exact ⟨rfl,HV2⟩
   | true =>
    have ha:=tr_above 141 Mk.listB eg_list tr_list l1 [108,105] u0 K wc HV1.out hll
    obtain ⟨o,ho⟩ : ∃ o,Mk.above [108,105] Mk.listB l1 = o:=⟨_,rfl⟩
    have h1 : stays2 l1 n = Mk.cutTo l1 o:=by rw [stays2,hbl,if_pos rfl,ho]
    have hlt:=Mk.above_lt [108,105] Mk.listB l1
    rw [ho] at ha hlt
    have HA:=Lib.hid ha
    have H1:=Lib.hid h1
    clear ha h1 ho HV
    cases o with
    | none =>
     clear hlt
     go_wp2_with fail
     refine HA.out.mono ?_
     rintro e w2 ⟨rfl,hw⟩
     subst hw
     unfold optV
     go_wp2_with fail
     go_meet
     case rel=>exact ⟨rfl,by rw [H1.out];exact HV1⟩
    | some i =>
     have hi:=hlt i rfl
     obtain ⟨ao,cap,rfl,hcap,hcm,_⟩:=HV1.out.at_
     have HT:=Lib.hid (HV1.out.take i (by omega))
     clear hlt
     go_wp2_with fail
     refine HA.out.mono ?_
     rintro e w2 ⟨rfl,hw⟩
     subst hw
     unfold optV
     have hi0 : (0 : Int)≤i:=by omega
     have hic : (i : Int)≤cap:=by omega
     go_wp2_with fail
     go_meet
     case rel=>exact ⟨rfl,by rw [H1.out];exact HT⟩
  case rest =>
   obtain ⟨hw,HV2⟩:=hcut
   subst hw
   obtain ⟨ao,cap,rfl,hcap,hcm,_⟩:=HV2.out.at_
   go_wp2_with fail
   go_ret
   exact ⟨by rw [HS2.out];rfl,rfl⟩
end Go.Proofs.YteidgdpaolieaaaGreatDoor

/- Contracts of the reference's IsEmpty and Closes. Condition: at most 33554432 names. -/
namespace Mk
theorem above_le (x : Bs) (q : Bs→Bool) (l : List Bs) : (above x q l).getD l.length≤l.length:=by
 cases h : above x q l with
 | none=>exact Nat.le_refl _
 | some i=>exact Nat.le_of_lt (above_lt x q l i h)
theorem cutTo_len2 (x : Bs) (q : Bs→Bool) (l : List Bs) : cutTo l (above x q l) = l.take ((above x q l).getD l.length):=by
 cases h : above x q l with
 | none=>show l = l.take l.length;rw [List.take_length]
 | some i=>rfl
/-- how many names stay open where an element is a block. -/
def stay1 (l : List Bs) (n : Bs) : Nat:=if blockB n then (above [112] wallB l).getD l.length else l.length
theorem stay1_le (l : List Bs) (n : Bs) : stay1 l n≤l.length:=by
 unfold stay1
 split
 ·exact above_le _ _ _
 ·exact Nat.le_refl _
theorem stays_two (l : List Bs) (n : Bs) : stays l n = if n = [108,105] then (above [108,105] listB (l.take (stay1 l n))).getD (stay1 l n) else stay1 l n:=by
 have h1 : (if blockB n = true then cutTo l (above [112] wallB l) else l) = l.take (stay1 l n):=by
  unfold stay1
  split
  ·exact cutTo_len2 _ _ _
  ·exact List.take_length.symm
 have h2:=stay1_le l n
 unfold stays
 simp only
 rw [h1]
 have hl : (l.take (stay1 l n)).length = stay1 l n:=by rw [List.length_take];exact Nat.min_eq_left h2
 by_cases hn : n = [108,105]
 ·rw [if_pos (by rw [hn];rfl),if_pos hn,cutTo_len2,List.length_take,hl]
  have:=above_le [108,105] listB (l.take (stay1 l n))
  rw [hl] at this
  exact Nat.min_eq_left this
 ·rw [if_neg (by simpa using hn),if_neg hn,hl]
end Mk
namespace Go.Proofs.YteidgdpaolieaaaGreatDoor
open Go.RowKit
set_option maxHeartbeats 1000000 in
theorem rf_IsEmpty (n : List UInt8) (w : World) :
  Calls Tryz.prog 69 #[.string (st n)] w fun e w'=>e = .returned (.bool (Mk.emptyB n))∧w' = w:=by
 have hst : (st n).toList = n:=Lib.toList_data _
 go_enter Tryz.func69,Tryz.ntmps69
 go_wp2_with fail
 all_goals (go_ret;refine ⟨ret_bool ?_,rfl⟩;first | rfl | (simp [Mk.emptyB, *];done) | trace_state)
/-- a name is one of some, or none of them. -/
theorem name_cases (n x : List UInt8) : (n = x∧(n == x) = true) ∨ (n ≠ x∧(n == x) = false):=by
 by_cases h : n = x
 ·exact .inl ⟨h,by rw [beq_iff_eq];exact h⟩
 ·exact .inr ⟨h,by rw [beq_eq_false_iff_ne];exact h⟩
set_option maxHeartbeats 16000000 in
set_option maxRecDepth 100000 in
theorem rf_Closes (l : List (List UInt8)) (n : List UInt8) (v : Value) (K : Nat→Prop) (w : World) (hv : StrsV w K v l) (hl : l.length≤33554432) :
  Calls Tryz.prog 71 #[v,.string (st n)] w fun e w'=>e = .returned (.int .i64 (Mk.stays l n))∧w' = w:=by
 have hst : ∀ l : List UInt8,(st l).toList = l:=fun l=>Lib.toList_data _
 obtain ⟨ao,cap,rfl,hcap,hcm,hat⟩:=hv.at_
 have HAT : Hid (∀ k (hk : k < l.length),∃ g o,ao = some ⟨g,o,none⟩∧w.cell? ⟨g,o + k,none⟩ = some (.string (st l[k]))):=fun k hk=>by
  rcases hat with h | ⟨g,o,h1,_,h2⟩
  ·rw [h] at hk;simp at hk
  ·exact ⟨g,o,h1,h2 k hk⟩
 clear hat hv
 go_enter Tryz.func71,Tryz.ntmps71
 go_upto_region 2 with fail
 go_cut [31] (fun b wx=>b = .bool (Mk.blockB n)∧w = wx)
 case first =>
  as_aux_lemma =>
  rcases name_cases n [112] with ⟨h0,q0⟩ | ⟨h0,q0⟩
  ·have HB : Hid (Mk.blockB n = true):=by show _ = _;rw [h0];rfl
   clear h0
   go_wp2_with fail
   go_meet
   case rel=>exact ⟨by rw [HB.out],rfl⟩
  rcases name_cases n [104,114] with ⟨h1,q1⟩ | ⟨h1,q1⟩
  ·have HB : Hid (Mk.blockB n = true):=by show _ = _;rw [h1];rfl
   clear h1 h0
   go_wp2_with fail
   go_meet
   case rel=>exact ⟨by rw [HB.out],rfl⟩
  rcases name_cases n [117,108] with ⟨h2,q2⟩ | ⟨h2,q2⟩
  ·have HB : Hid (Mk.blockB n = true):=by show _ = _;rw [h2];rfl
   clear h2 h0 h1
   go_wp2_with fail
   go_meet
   case rel=>exact ⟨by rw [HB.out],rfl⟩
  rcases name_cases n [111,108] with ⟨h3,q3⟩ | ⟨h3,q3⟩
  ·have HB : Hid (Mk.blockB n = true):=by show _ = _;rw [h3];rfl
   clear h3 h0 h1 h2
   go_wp2_with fail
   go_meet
   case rel=>exact ⟨by rw [HB.out],rfl⟩
  rcases name_cases n [108,105] with ⟨h4,q4⟩ | ⟨h4,q4⟩
  ·have HB : Hid (Mk.blockB n = true):=by show _ = _;rw [h4];rfl
   clear h4 h0 h1 h2 h3
   go_wp2_with fail
   go_meet
   case rel=>exact ⟨by rw [HB.out],rfl⟩
  rcases name_cases n [98,108,111,99,107,113,117,111,116,101] with ⟨h5,q5⟩ | ⟨h5,q5⟩
  ·have HB : Hid (Mk.blockB n = true):=by show _ = _;rw [h5];rfl
   clear h5 h0 h1 h2 h3 h4
   go_wp2_with fail
   go_meet
   case rel=>exact ⟨by rw [HB.out],rfl⟩
  have HB : Hid (Mk.blockB n = false):=by show _ = _;unfold Mk.blockB Mk.wallB Mk.listB;rw [q0,q1,q2,q3,q4,q5];rfl
  clear h0 h1 h2 h3 h4 h5
  go_wp2_with fail
  go_meet
  case rel=>exact ⟨by rw [HB.out],rfl⟩
 case rest =>
 as_aux_lemma =>
 obtain ⟨rfl,hwx⟩:=hcut
 subst hwx
 go_upto_if 31 with fail
 go_cut [5] (fun v wx=>v = .int .i64 (Mk.stay1 l n : Nat)∧w = wx)
 case first =>
  as_aux_lemma =>
  cases hb : Mk.blockB n with
  | false =>
   have HS : Hid (Mk.stay1 l n = l.length):=by show _ = _;unfold Mk.stay1;rw [hb];rfl
   clear hb
   go_wp2_with fail
   go_meet
   case rel=>exact ⟨by rw [HS.out],rfl⟩
  | true =>
   have HS : Hid (Mk.stay1 l n = (Mk.above [112] Mk.wallB l).getD l.length):=by show _ = _;unfold Mk.stay1;rw [hb];rfl
   clear hb
   go_wp2_with fail
   go_loopw [5,6] (fun nv iv wx=>∃ j : Nat,j≤l.length∧nv = .int .i64 (l.length : Int)∧iv = .int .i64 ((j : Int) - 1)∧Hid (Mk.above [112] Mk.wallB l = Mk.above [112] Mk.wallB (l.take j))∧w = wx) (fun _ iv _=>(intOf iv + 1).toNat)
   case atStart=>exact ⟨l.length,Nat.le_refl _,rfl,rfl,by show _ = _;rw [List.take_length],rfl⟩
   case round =>
    obtain ⟨j,hj,rfl,rfl,HA,hwx⟩:=hrel
    subst hwx
    cases j with
    | zero =>
     have HE : Hid (Mk.stay1 l n = l.length):=by show _ = _;rw [HS.out,HA.out,Mk.above_nil];rfl
     clear HA HS
     go_wp2_with fail
     go_meet
     case rel=>exact ⟨by rw [HE.out],rfl⟩
    | succ j =>
     have hjl : j < l.length:=hj
     have hat:=Mk.above_take [112] Mk.wallB l j hjl
     rw [← HA.out] at hat
     obtain ⟨g,o,hao,hc⟩:=HAT.out j hjl
     subst hao
     obtain ⟨e,he⟩ : ∃ e,l[j] = e:=⟨_,rfl⟩
     rw [he] at hat hc
     have hj1 : ((j + 1 : Nat) : Int) - 1 = (j : Int):=by omega
     rw [hj1]
     have hjl2 : (j : Int) < l.length:=by omega
     have hj0 : (0 : Int)≤j:=by omega
     have HAK:=Lib.hid hat
     clear hat HA he hj1 HAT hj
     rcases name_cases e [112] with ⟨h0,q0⟩ | ⟨h0,q0⟩
     ·have HE : Hid (Mk.stay1 l n = j):=by show _ = _;rw [HS.out,HAK.out,if_pos h0];rfl
      clear HS
      clear h0 HAK
      go_wp2_with fail
      go_meet
      case rel=>exact ⟨by rw [HE.out],rfl⟩
     rcases name_cases e [117,108] with ⟨h1,q1⟩ | ⟨h1,q1⟩
     ·have HE : Hid (Mk.stay1 l n = l.length):=by show _ = _;rw [HS.out,HAK.out,if_neg h0,if_pos (by rw [h1];rfl)];rfl
      clear HS
      clear h1 h0 HAK
      go_wp2_with fail
      go_meet
      case rel=>exact ⟨by rw [HE.out],rfl⟩
     rcases name_cases e [111,108] with ⟨h2,q2⟩ | ⟨h2,q2⟩
     ·have HE : Hid (Mk.stay1 l n = l.length):=by show _ = _;rw [HS.out,HAK.out,if_neg h0,if_pos (by rw [h2];rfl)];rfl
      clear HS
      clear h2 h0 h1 HAK
      go_wp2_with fail
      go_meet
      case rel=>exact ⟨by rw [HE.out],rfl⟩
     rcases name_cases e [108,105] with ⟨h3,q3⟩ | ⟨h3,q3⟩
     ·have HE : Hid (Mk.stay1 l n = l.length):=by show _ = _;rw [HS.out,HAK.out,if_neg h0,if_pos (by rw [h3];rfl)];rfl
      clear HS
      clear h3 h0 h1 h2 HAK
      go_wp2_with fail
      go_meet
      case rel=>exact ⟨by rw [HE.out],rfl⟩
     rcases name_cases e [98,108,111,99,107,113,117,111,116,101] with ⟨h4,q4⟩ | ⟨h4,q4⟩
     ·have HE : Hid (Mk.stay1 l n = l.length):=by show _ = _;rw [HS.out,HAK.out,if_neg h0,if_pos (by rw [h4];rfl)];rfl
      clear HS
      clear h4 h0 h1 h2 h3 HAK
      go_wp2_with fail
      go_meet
      case rel=>exact ⟨by rw [HE.out],rfl⟩
     have HR : Hid (Mk.above [112] Mk.wallB l = Mk.above [112] Mk.wallB (l.take j)):=by show _ = _;rw [HAK.out,if_neg h0,if_neg (by unfold Mk.wallB Mk.listB;rw [q1,q2,q3,q4];decide)]
     clear h0 h1 h2 h3 h4 HAK
     go_wp2_with fail
     go_roundw
     case rel=>exact ⟨j,by omega,rfl,by go_num,HR,(by trivial)⟩
     case measure=>first | (simp [intOf];done) | (simp [intOf];omega)
 case rest =>
 as_aux_lemma =>
 obtain ⟨rfl,hwx⟩:=hcut
 subst hwx
 have hm:=Mk.stay1_le l n
 have HST:=Lib.hid (Mk.stays_two l n)
 generalize Mk.stay1 l n = m at hm HST ⊢
 rcases name_cases n [108,105] with ⟨h,q⟩ | ⟨h,q⟩
 ·as_aux_lemma =>
  have HS2 : Hid (Mk.stays l n = (Mk.above [108,105] Mk.listB (l.take m)).getD m):=by show _ = _;rw [HST.out,if_pos h]
  clear HST h
  go_wp2_with fail
  go_loopw [7] (fun iv wx=>∃ j : Nat,j≤m∧iv = .int .i64 ((j : Int) - 1)∧Hid (Mk.above [108,105] Mk.listB (l.take m) = Mk.above [108,105] Mk.listB (l.take j))∧w = wx) (fun iv _=>(intOf iv + 1).toNat)
  case atStart=>exact ⟨m,Nat.le_refl _,rfl,rfl,rfl⟩
  case round =>
   obtain ⟨j,hj,rfl,HA,hwx⟩:=hrel
   subst hwx
   cases j with
   | zero =>
    have HE : Hid (Mk.stays l n = m):=by show _ = _;rw [HS2.out,HA.out,Mk.above_nil];rfl
    clear HA HS2
    go_wp2_with fail
    go_ret
    exact ⟨by rw [HE.out];rfl,rfl⟩
   | succ j =>
    have hjl : j < l.length:=by omega
    have hat:=Mk.above_take [108,105] Mk.listB l j hjl
    rw [← HA.out] at hat
    obtain ⟨g,o,hao,hc⟩:=HAT.out j hjl
    subst hao
    obtain ⟨e,he⟩ : ∃ e,l[j] = e:=⟨_,rfl⟩
    rw [he] at hat hc
    have hj1 : ((j + 1 : Nat) : Int) - 1 = (j : Int):=by omega
    rw [hj1]
    have hjl2 : (j : Int) < l.length:=by omega
    have hj0 : (0 : Int)≤j:=by omega
    have HAK:=Lib.hid hat
    clear hat HA he hj1 HAT
    rcases name_cases e [108,105] with ⟨h0,q0⟩ | ⟨h0,q0⟩
    ·have HE : Hid (Mk.stays l n = j):=by show _ = _;rw [HS2.out,HAK.out,if_pos h0];rfl
     clear HS2
     clear h0 HAK
     go_wp2_with fail
     go_ret
     exact ⟨by rw [HE.out];rfl,rfl⟩
    rcases name_cases e [117,108] with ⟨h1,q1⟩ | ⟨h1,q1⟩
    ·have HE : Hid (Mk.stays l n = m):=by show _ = _;rw [HS2.out,HAK.out,if_neg h0,if_pos (by rw [h1];rfl)];rfl
     clear HS2
     clear h1 h0 HAK
     go_wp2_with fail
     go_ret
     exact ⟨by rw [HE.out];rfl,rfl⟩
    rcases name_cases e [111,108] with ⟨h2,q2⟩ | ⟨h2,q2⟩
    ·have HE : Hid (Mk.stays l n = m):=by show _ = _;rw [HS2.out,HAK.out,if_neg h0,if_pos (by rw [h2];rfl)];rfl
     clear HS2
     clear h2 h0 h1 HAK
     go_wp2_with fail
     go_ret
     exact ⟨by rw [HE.out];rfl,rfl⟩
    have HR : Hid (Mk.above [108,105] Mk.listB (l.take m) = Mk.above [108,105] Mk.listB (l.take j)):=by show _ = _;rw [HAK.out,if_neg h0,if_neg (by unfold Mk.listB;rw [q1,q2];decide)]
    clear h0 h1 h2 HAK
    go_wp2_with fail
    go_roundw
    case rel=>exact ⟨j,by omega,by go_num,HR,(by trivial)⟩
    case measure=>first | (simp [intOf];done) | (simp [intOf];omega)
 ·as_aux_lemma =>
  have HS2 : Hid (Mk.stays l n = m):=by show _ = _;rw [HST.out,if_neg h]
  clear HST h
  go_wp2_with fail
  go_ret
  exact ⟨by rw [HS2.out];rfl,rfl⟩
end Go.Proofs.YteidgdpaolieaaaGreatDoor
