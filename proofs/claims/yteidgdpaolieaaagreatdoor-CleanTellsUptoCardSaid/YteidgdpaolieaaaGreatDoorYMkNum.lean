/- Contracts of the program's numbered and sign: the sign that is told at the beginning of a text. Condition: a text of at most 2097152 bytes. -/
import Derived.Test.YteidgdpaolieaaaGreatDoorYMkPu
set_option linter.unusedVariables false
set_option linter.unusedSimpArgs false
namespace Go.Proofs.YteidgdpaolieaaaGreatDoor
open Go.RowKit

theorem val_lt (b : Nat) (hb : 1≤b) (m : List UInt8) (h : ∀ c ∈ m,Mk.isDig b c = true) : ∀ l k,Mk.value b l < b ^ k→Mk.value b (l++m) < b ^ (k + m.length):=by
 induction m with
 | nil=>intro l k hk;simpa using hk
 | cons c t ih =>
  intro l k hk
  have hc:=dig_lt b c (h c (by simp))
  have e : l++c :: t = (l++[c])++t:=by simp
  rw [e,List.length_cons,show k + (t.length + 1) = (k + 1) + t.length by omega]
  refine ih (fun x hx=>h x (by simp [hx])) _ _ ?_
  rw [val_snoc,Nat.pow_succ]
  calc Mk.value b l * b + Mk.dig36 c.toNat < Mk.value b l * b + b:=by omega
   _ = (Mk.value b l + 1) * b:=by rw [Nat.add_mul,Nat.one_mul]
   _≤b ^ k * b:=Nat.mul_le_mul_right b hk
theorem takeWhile_all (q : UInt8→Bool) (l : List UInt8) : ∀ c ∈ l.takeWhile q,q c = true:=by
 induction l with
 | nil=>simp
 | cons c t ih =>
  intro x hx
  rw [List.takeWhile_cons] at hx
  split at hx
  ·rcases List.mem_cons.1 hx with e | e
   ·rw [e];assumption
   ·exact ih x e
  ·cases hx
theorem val_digits (b : Nat) (hb : 1≤b) (l : List UInt8) : Mk.value b (l.takeWhile (Mk.isDig b)) < b ^ (l.takeWhile (Mk.isDig b)).length:=by
 have h:=val_lt b hb (l.takeWhile (Mk.isDig b)) (takeWhile_all _ _) [] 0 (by simp [Mk.value])
 simpa using h
theorem takeWhile_take (q : UInt8→Bool) (l : List UInt8) : l.take (l.takeWhile q).length = l.takeWhile q:=by
 have h:=List.takeWhile_append_dropWhile (p:=q) (l:=l)
 conv=>lhs;arg 2;rw [← h]
 rw [List.take_left'];rfl
def numV : Option (Nat × Nat)→Value
 | none=>.tuple #[.int .i64 0,.int .i64 0]
 | some (p,n)=>.tuple #[.int .i64 p,.int .i64 n]

section
variable (l : List UInt8)
theorem numAt_10_bad (h : ((l.drop 2).takeWhile (Mk.isDig 10)).length = 0 ∨ 7 < ((l.drop 2).takeWhile (Mk.isDig 10)).length) : Mk.numAt 10 7 2 l = none:=by
 unfold Mk.numAt;simp only;rw [if_pos h]
theorem numAt_10_no (h : Mg.isAt 59 ((l.drop 2).drop ((l.drop 2).takeWhile (Mk.isDig 10)).length) = false) : Mk.numAt 10 7 2 l = none:=by
 unfold Mk.numAt;simp only;rw [h];simp
theorem numAt_10_yes (h : ¬ (((l.drop 2).takeWhile (Mk.isDig 10)).length = 0 ∨ 7 < ((l.drop 2).takeWhile (Mk.isDig 10)).length)) (h2 : Mg.isAt 59 ((l.drop 2).drop ((l.drop 2).takeWhile (Mk.isDig 10)).length) = true) :
  Mk.numAt 10 7 2 l = some (Mk.value 10 ((l.drop 2).takeWhile (Mk.isDig 10)),2 + ((l.drop 2).takeWhile (Mk.isDig 10)).length + 1):=by
 unfold Mk.numAt;simp only;rw [if_neg h,if_pos h2]
end

section
variable (l : List UInt8)
theorem numAt_16_bad (h : ((l.drop 3).takeWhile (Mk.isDig 16)).length = 0 ∨ 6 < ((l.drop 3).takeWhile (Mk.isDig 16)).length) : Mk.numAt 16 6 3 l = none:=by
 unfold Mk.numAt;simp only;rw [if_pos h]
theorem numAt_16_no (h : Mg.isAt 59 ((l.drop 3).drop ((l.drop 3).takeWhile (Mk.isDig 16)).length) = false) : Mk.numAt 16 6 3 l = none:=by
 unfold Mk.numAt;simp only;rw [h];simp
theorem numAt_16_yes (h : ¬ (((l.drop 3).takeWhile (Mk.isDig 16)).length = 0 ∨ 6 < ((l.drop 3).takeWhile (Mk.isDig 16)).length)) (h2 : Mg.isAt 59 ((l.drop 3).drop ((l.drop 3).takeWhile (Mk.isDig 16)).length) = true) :
  Mk.numAt 16 6 3 l = some (Mk.value 16 ((l.drop 3).takeWhile (Mk.isDig 16)),3 + ((l.drop 3).takeWhile (Mk.isDig 16)).length + 1):=by
 unfold Mk.numAt;simp only;rw [if_neg h,if_pos h2]
end
theorem isAt_at (s : ByteArray) (m : Nat) (h : m < s.size) (c : UInt8) : Mg.isAt c (s.data.toList.drop m) = ((s[m].toNat : Int) == (c.toNat : Int)):=by
 rw [bs_drop s m h]
 show (s[m] == c) = _
 rw [Bool.eq_iff_iff,beq_iff_eq,beq_iff_eq]
 exact ⟨fun e=>by rw [e],fun e=>UInt8.toNat_inj.1 (by omega)⟩

set_option maxHeartbeats 4000000 in
set_option maxRecDepth 100000 in
theorem esc_numbered_16 (s : ByteArray) (w : World) (hs : s.size≤2097152) (hg : Gl w) (hp : Mg.pre [38,35,120] s.data.toList = true) :
  Calls Tryz.prog 183 #[.string s] w fun e w'=>e = .returned (numV (Mk.numAt 16 6 3 s.data.toList))∧Below w.heap.size w w':=by
 have hq:=esc_pre s [38,35,120]
 rw [hp] at hq
 have HQ:=Lib.hid hq
 clear hq
 have hr : (3 : Int)≤s.size:=by
  have h:=congrArg List.length (show s.data.toList.take 3 = _ from by simpa [Mg.pre] using hp)
  rw [List.length_take] at h
  simp at h;omega
 obtain ⟨r,hre⟩ : ∃ r,s.data.toList.drop 3 = r:=⟨_,rfl⟩
 have hrs : s.extract 3 s.size = st r:=by rw [← hre,extract_st,List.take_of_length_le (by simp)]
 have hrz : (st r).size≤2097152:=by rw [st_size,← hre];simp;omega
 have hbad:=numAt_16_bad s.data.toList
 have hno:=numAt_16_no s.data.toList
 have hyes:=numAt_16_yes s.data.toList
 have hvd:=val_digits 16 (by omega) r
 have htw:=takeWhile_take (Mk.isDig 16) r
 have hall:=takeWhile_all (Mk.isDig 16) r
 have hle : (r.takeWhile (Mk.isDig 16)).length≤r.length:=List.Sublist.length_le (List.takeWhile_sublist _)
 rw [hre] at hbad hno hyes
 obtain ⟨ds,hds⟩ : ∃ ds,r.takeWhile (Mk.isDig 16) = ds:=⟨_,rfl⟩
 have HD:=Lib.hid (fun W hG=>esc_digits (st r) 16 (by omega) W hrz hG)
 rw [show (st r).data.toList = r from rfl,hds] at HD
 rw [hds] at hbad hno hyes hvd htw hall hle
 obtain ⟨n,hn⟩ : ∃ n,ds.length = n:=⟨_,rfl⟩
 rw [hn] at HD hbad hno hyes hvd htw hle
 have hnz : n≤(st r).size:=by rw [st_size];exact hle
 have HB:=Lib.hid hbad
 have HN:=Lib.hid hno
 have HY:=Lib.hid hyes
 have HV:=Lib.hid hvd
 have HT:=Lib.hid htw
 have HA:=Lib.hid hall
 have HL:=Lib.hid hn
 have HG:=Lib.hid hg
 have HRE:=Lib.hid hre
 clear hbad hno hyes hvd htw hall hn hds hre hg hle hp
 go_enter Tryz.func183,Tryz.ntmps183
 go_wp2_with fail
 refine (HQ.out _).mono ?_
 rintro e w1 ⟨rfl,rfl⟩
 go_wp2_with fail
 refine (HQ.out _).mono ?_
 rintro e w1 ⟨rfl,rfl⟩
 go_wp2_with fail
 refine (HD.out _ HG.out).mono ?_
 rintro e w1 ⟨rfl,hb1⟩
 by_cases h0 : n = 0
 ·have H:=Lib.hid (HB.out (.inl h0))
  subst h0
  go_wp2_with fail
  go_ret2
  exact ⟨by rw [H.out];rfl,hb1⟩
 by_cases h7 : 6 < n
 ·have H:=Lib.hid (HB.out (.inr h7))
  have k0 : ((n : Int) == 0) = false:=by rw [beq_eq_false_iff_ne];omega
  have k1 : (6 : Int) < n:=by omega
  clear h0 h7
  go_wp2_with fail
  go_ret2
  exact ⟨by rw [H.out];rfl,hb1⟩
 have k0 : ((n : Int) == 0) = false:=by rw [beq_eq_false_iff_ne];omega
 have k1 : (n : Int)≤6:=by omega
 have k2 : decide (6 < n) = false:=decide_eq_false h7
 rcases Nat.lt_or_ge n (st r).size with hlt | hge
 ·have k3 : ((n : Int) == ((st r).size : Int)) = false:=by rw [beq_eq_false_iff_ne];omega
  have k4 : (n == (st r).size) = false:=by rw [beq_eq_false_iff_ne];omega
  have hia:=isAt_at (st r) n hlt 59
  rw [show (st r).data.toList = r from rfl] at hia
  cases hx : Mg.isAt 59 (r.drop n) with
  | false =>
   have H:=Lib.hid (HN.out hx)
   have k5 : (((st r)[n].toNat : Int) != 59) = true:=by rw [hx] at hia;rw [bne,← show _ = (((st r)[n].toNat : Int) == 59) from hia];rfl
   clear hx hia h0 h7
   go_wp2_with fail
   go_ret2
   exact ⟨by rw [H.out];rfl,hb1⟩
  | true =>
   have H:=Lib.hid (HY.out (by omega) hx)
   have k5 : (((st r)[n].toNat : Int) != 59) = false:=by rw [hx] at hia;rw [bne,← show _ = (((st r)[n].toNat : Int) == 59) from hia];rfl
   have hv : Mk.value 16 ds≤4294967295:=by
    have h1:=HV.out
    have h2 : 16 ^ n≤16 ^ 6:=Nat.pow_le_pow_right (by omega) (by omega)
    have h3 : 16 ^ 6≤4294967295:=by decide
    omega
   have hne : ds ≠ []:=by intro e;have:=HL.out;rw [e] at this;simp at this;omega
   have HP:=Lib.hid (fun W=>pub_ok (fun W=>pu_ok_16_32 ds hne (by rw [HL.out];omega) HA.out hv W) W)
   have hds : (st r).extract 0 n = st ds:=by rw [extract_st];simp only [List.drop_zero,Nat.sub_zero];exact congrArg st HT.out
   obtain ⟨v,hve⟩ : ∃ v,Mk.value 16 ds = v:=⟨_,rfl⟩
   rw [hve] at HP hv H
   have k6 : (v : Int)≤4294967295:=by omega
   clear hx hia h0 h7 hve hne hv
   go_wp2_with fail
   refine (HP.out _).mono ?_
   rintro e w2 ⟨rfl,hb2⟩
   go_wp2_with fail
   go_ret2
   exact ⟨by rw [H.out];first | rfl | congr 4,hb1.trans (hb2.mono hb1.size)⟩
 ·have hnr : n = (st r).size:=by omega
  have H:=Lib.hid (HN.out (by rw [List.drop_of_length_le (by rw [st_size] at hge;exact hge)];rfl))
  have k3 : ((n : Int) == ((st r).size : Int)) = true:=by rw [beq_iff_eq];omega
  have k4 : (n == (st r).size) = true:=by rw [beq_iff_eq];omega
  clear h0 h7 hnr hge hnz
  go_wp2_with fail
  go_ret2
  exact ⟨by rw [H.out];rfl,hb1⟩

set_option maxHeartbeats 4000000 in
set_option maxRecDepth 100000 in
theorem esc_numbered_10 (s : ByteArray) (w : World) (hs : s.size≤2097152) (hg : Gl w) (hp0 : Mg.pre [38,35,120] s.data.toList = false) (hp : Mg.pre [38,35] s.data.toList = true) :
  Calls Tryz.prog 183 #[.string s] w fun e w'=>e = .returned (numV (Mk.numAt 10 7 2 s.data.toList))∧Below w.heap.size w w':=by
 have hq:=esc_pre s [38,35]
 rw [hp] at hq
 have HQ:=Lib.hid hq
 clear hq
 have hq0:=esc_pre s [38,35,120]
 rw [hp0] at hq0
 have HQ0:=Lib.hid hq0
 clear hq0 hp0
 have hr : (2 : Int)≤s.size:=by
  have h:=congrArg List.length (show s.data.toList.take 2 = _ from by simpa [Mg.pre] using hp)
  rw [List.length_take] at h
  simp at h;omega
 obtain ⟨r,hre⟩ : ∃ r,s.data.toList.drop 2 = r:=⟨_,rfl⟩
 have hrs : s.extract 2 s.size = st r:=by rw [← hre,extract_st,List.take_of_length_le (by simp)]
 have hrz : (st r).size≤2097152:=by rw [st_size,← hre];simp;omega
 have hbad:=numAt_10_bad s.data.toList
 have hno:=numAt_10_no s.data.toList
 have hyes:=numAt_10_yes s.data.toList
 have hvd:=val_digits 10 (by omega) r
 have htw:=takeWhile_take (Mk.isDig 10) r
 have hall:=takeWhile_all (Mk.isDig 10) r
 have hle : (r.takeWhile (Mk.isDig 10)).length≤r.length:=List.Sublist.length_le (List.takeWhile_sublist _)
 rw [hre] at hbad hno hyes
 obtain ⟨ds,hds⟩ : ∃ ds,r.takeWhile (Mk.isDig 10) = ds:=⟨_,rfl⟩
 have HD:=Lib.hid (fun W hG=>esc_digits (st r) 10 (by omega) W hrz hG)
 rw [show (st r).data.toList = r from rfl,hds] at HD
 rw [hds] at hbad hno hyes hvd htw hall hle
 obtain ⟨n,hn⟩ : ∃ n,ds.length = n:=⟨_,rfl⟩
 rw [hn] at HD hbad hno hyes hvd htw hle
 have hnz : n≤(st r).size:=by rw [st_size];exact hle
 have HB:=Lib.hid hbad
 have HN:=Lib.hid hno
 have HY:=Lib.hid hyes
 have HV:=Lib.hid hvd
 have HT:=Lib.hid htw
 have HA:=Lib.hid hall
 have HL:=Lib.hid hn
 have HG:=Lib.hid hg
 have HRE:=Lib.hid hre
 clear hbad hno hyes hvd htw hall hn hds hre hg hle hp
 go_enter Tryz.func183,Tryz.ntmps183
 go_wp2_with fail
 refine (HQ0.out _).mono ?_
 rintro e w1 ⟨rfl,rfl⟩
 go_wp2_with fail
 refine (HQ.out _).mono ?_
 rintro e w1 ⟨rfl,rfl⟩
 go_wp2_with fail
 refine (HD.out _ HG.out).mono ?_
 rintro e w1 ⟨rfl,hb1⟩
 by_cases h0 : n = 0
 ·have H:=Lib.hid (HB.out (.inl h0))
  subst h0
  go_wp2_with fail
  go_ret2
  exact ⟨by rw [H.out];rfl,hb1⟩
 by_cases h7 : 7 < n
 ·have H:=Lib.hid (HB.out (.inr h7))
  have k0 : ((n : Int) == 0) = false:=by rw [beq_eq_false_iff_ne];omega
  have k1 : (7 : Int) < n:=by omega
  clear h0 h7
  go_wp2_with fail
  go_ret2
  exact ⟨by rw [H.out];rfl,hb1⟩
 have k0 : ((n : Int) == 0) = false:=by rw [beq_eq_false_iff_ne];omega
 have k1 : (n : Int)≤7:=by omega
 have k2 : decide (7 < n) = false:=decide_eq_false h7
 rcases Nat.lt_or_ge n (st r).size with hlt | hge
 ·have k3 : ((n : Int) == ((st r).size : Int)) = false:=by rw [beq_eq_false_iff_ne];omega
  have k4 : (n == (st r).size) = false:=by rw [beq_eq_false_iff_ne];omega
  have hia:=isAt_at (st r) n hlt 59
  rw [show (st r).data.toList = r from rfl] at hia
  cases hx : Mg.isAt 59 (r.drop n) with
  | false =>
   have H:=Lib.hid (HN.out hx)
   have k5 : (((st r)[n].toNat : Int) != 59) = true:=by rw [hx] at hia;rw [bne,← show _ = (((st r)[n].toNat : Int) == 59) from hia];rfl
   clear hx hia h0 h7
   go_wp2_with fail
   go_ret2
   exact ⟨by rw [H.out];rfl,hb1⟩
  | true =>
   have H:=Lib.hid (HY.out (by omega) hx)
   have k5 : (((st r)[n].toNat : Int) != 59) = false:=by rw [hx] at hia;rw [bne,← show _ = (((st r)[n].toNat : Int) == 59) from hia];rfl
   have hv : Mk.value 10 ds≤4294967295:=by
    have h1:=HV.out
    have h2 : 10 ^ n≤10 ^ 7:=Nat.pow_le_pow_right (by omega) (by omega)
    have h3 : 10 ^ 7≤4294967295:=by decide
    omega
   have hne : ds ≠ []:=by intro e;have:=HL.out;rw [e] at this;simp at this;omega
   have HP:=Lib.hid (fun W=>pub_ok (fun W=>pu_ok_10_32 ds hne (by rw [HL.out];omega) HA.out hv W) W)
   have hds : (st r).extract 0 n = st ds:=by rw [extract_st];simp only [List.drop_zero,Nat.sub_zero];exact congrArg st HT.out
   obtain ⟨v,hve⟩ : ∃ v,Mk.value 10 ds = v:=⟨_,rfl⟩
   rw [hve] at HP hv H
   have k6 : (v : Int)≤4294967295:=by omega
   clear hx hia h0 h7 hve hne hv
   go_wp2_with fail
   refine (HP.out _).mono ?_
   rintro e w2 ⟨rfl,hb2⟩
   go_wp2_with fail
   go_ret2
   exact ⟨by rw [H.out];first | rfl | congr 4,hb1.trans (hb2.mono hb1.size)⟩
 ·have hnr : n = (st r).size:=by omega
  have H:=Lib.hid (HN.out (by rw [List.drop_of_length_le (by rw [st_size] at hge;exact hge)];rfl))
  have k3 : ((n : Int) == ((st r).size : Int)) = true:=by rw [beq_iff_eq];omega
  have k4 : (n == (st r).size) = true:=by rw [beq_iff_eq];omega
  clear h0 h7 hnr hge hnz
  go_wp2_with fail
  go_ret2
  exact ⟨by rw [H.out];rfl,hb1⟩

set_option maxHeartbeats 1000000 in
theorem esc_numbered_no (s : ByteArray) (w : World) (hp0 : Mg.pre [38,35,120] s.data.toList = false) (hp : Mg.pre [38,35] s.data.toList = false) :
  Calls Tryz.prog 183 #[.string s] w fun e w'=>e = .returned (numV none)∧w = w':=by
 have hq:=esc_pre s [38,35]
 rw [hp] at hq
 have HQ:=Lib.hid hq
 have hq0:=esc_pre s [38,35,120]
 rw [hp0] at hq0
 have HQ0:=Lib.hid hq0
 clear hq hq0 hp0 hp
 go_enter Tryz.func183,Tryz.ntmps183
 go_wp2_with fail
 refine (HQ0.out _).mono ?_
 rintro e w1 ⟨rfl,rfl⟩
 go_wp2_with fail
 refine (HQ.out _).mono ?_
 rintro e w1 ⟨rfl,rfl⟩
 go_wp2_with fail
 go_ret2
 exact ⟨rfl,rfl⟩
theorem esc_numbered (s : ByteArray) (w : World) (hs : s.size≤2097152) (hg : Gl w) :
  Calls Tryz.prog 183 #[.string s] w fun e w'=>e = .returned (numV (Mk.numbered s.data.toList))∧Below w.heap.size w w':=by
 unfold Mk.numbered
 cases hp0 : Mg.pre [38,35,120] s.data.toList with
 | true=>rw [if_pos rfl];exact esc_numbered_16 s w hs hg hp0
 | false =>
  rw [if_neg (by simp)]
  cases hp : Mg.pre [38,35] s.data.toList with
  | true=>rw [if_pos rfl];exact esc_numbered_10 s w hs hg hp0 hp
  | false =>
   rw [if_neg (by simp)]
   exact (esc_numbered_no s w hp0 hp).mono fun e w' hh=>⟨hh.1,by rw [hh.2];exact Below.refl _ _⟩
end Go.Proofs.YteidgdpaolieaaaGreatDoor
