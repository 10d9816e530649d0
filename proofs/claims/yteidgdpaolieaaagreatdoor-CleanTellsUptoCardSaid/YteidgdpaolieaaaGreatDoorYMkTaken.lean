/- Contract of the program's Taken: a text with signs for what tells them. Condition: a text of at most 1048576 bytes. -/
import Derived.Test.YteidgdpaolieaaaGreatDoorYMkTake
import Derived.Test.YteidgdpaolieaaaGreatDoorYUrlD
import Derived.Deep.CutBlock
import Derived.Deep.DeepCutAuto
import Derived.Test.YteidgdpaolieaaaGreatDoorYMkPu
set_option linter.unusedVariables false
set_option linter.unusedSimpArgs false
namespace Mk
theorem takeN_fuel (n : Nat) : ∀ m r,r.length≤n→r.length≤m→takeN n r = takeN m r:=by
 induction n with
 | zero =>
  intro m r h _
  have : r = []:=List.eq_nil_of_length_eq_zero (by omega)
  subst this
  cases m <;> rfl
 | succ n ih =>
  intro m r h hm
  cases r with
  | nil=>cases m <;> rfl
  | cons c t =>
   rw [List.length_cons] at h hm
   cases m with
   | zero=>omega
   | succ m =>
    simp only [takeN]
    have e1 : ((c :: t).drop (max 1 (sign (c :: t)).2.1)).length≤t.length:=by rw [List.length_drop,List.length_cons];omega
    rw [ih m _ (by omega) (by omega),ih m t (by omega) (by omega)]
theorem take_nil : take [] = ([],true):=rfl
theorem take_plain (c : UInt8) (t : Bs) (h : c ≠ 38) : take (c :: t) = (c :: (take t).1,(take t).2):=by
 show takeN (t.length + 1) (c :: t) = _
 simp only [takeN];rw [if_neg h];rfl
theorem take_amp (t : Bs) : take (38 :: t) = ((sign (38 :: t)).1++(take ((38 :: t).drop (max 1 (sign (38 :: t)).2.1))).1,(sign (38 :: t)).2.2 && (take ((38 :: t).drop (max 1 (sign (38 :: t)).2.1))).2):=by
 show takeN (t.length + 1) (38 :: t) = _
 simp only [takeN];rw [if_pos trivial]
 have e1 : ((38 :: t).drop (max 1 (sign (38 :: t)).2.1)).length≤t.length:=by rw [List.length_drop,List.length_cons];omega
 rw [takeN_fuel t.length _ _ e1 (Nat.le_refl _)];rfl
theorem take_app (p : Bs) : ∀ r,(38 : UInt8) ∉ p→take (p++r) = (p++(take r).1,(take r).2):=by
 induction p with
 | nil=>intro r _;rfl
 | cons c t ih =>
  intro r h
  rw [List.mem_cons,not_or] at h
  rw [List.cons_append,take_plain c _ (fun e=>h.1 e.symm),ih r h.2];rfl
theorem utf8_len (p : Nat) : (utf8 p).length≤4:=by
 unfold utf8
 split
 ·simp
 split
 ·simp
 split
 ·simp
 ·simp
theorem pre_le {p l : Bs} (h : Mg.pre p l = true) : p.length≤l.length:=by
 have h1 : l.take p.length = p:=by simpa [Mg.pre] using h
 have:=congrArg List.length h1
 rw [List.length_take] at this
 omega
theorem sign_facts (l : Bs) : (sign l).1.length≤4∧((sign l).2.1≤l.length):=by
 have hna : ∀ c n,named l = some (c,n)→n≤l.length:=by
  intro c n e
  unfold named at e
  split at e
  ·rename_i h;have:=pre_le h;injection e with e;injection e with e1 e2;simp at this;omega
  split at e
  ·rename_i h;have:=pre_le h;injection e with e;injection e with e1 e2;simp at this;omega
  split at e
  ·rename_i h;have:=pre_le h;injection e with e;injection e with e1 e2;simp at this;omega
  split at e
  ·rename_i h;have:=pre_le h;injection e with e;injection e with e1 e2;simp at this;omega
  split at e
  ·rename_i h;have:=pre_le h;injection e with e;injection e with e1 e2;simp at this;omega
  ·cases e
 have hnu : ∀ p n,numbered l = some (p,n)→n≤l.length:=by
  intro p n e
  have hat : ∀ x y z,numAt x y z l = some (p,n)→n≤l.length:=by
   intro x y z h
   unfold numAt at h
   simp only at h
   split at h
   ·cases h
   split at h
   ·rename_i h2
    injection h with h;injection h with h1 h3
    have h4 : (l.drop z).drop ((l.drop z).takeWhile (isDig x)).length ≠ []:=by intro e;rw [e] at h2;cases h2
    have h5:=List.length_pos_iff.2 h4
    rw [List.length_drop,List.length_drop] at h5
    omega
   ·cases h
  unfold numbered at e
  split at e
  ·exact hat _ _ _ e
  split at e
  ·exact hat _ _ _ e
  ·cases e
 unfold sign
 cases ha : named l with
 | some x=>exact ⟨by simp,hna x.1 x.2 ha⟩
 | none =>
  simp only
  cases hb : numbered l with
  | none=>exact ⟨by simp,Nat.zero_le _⟩
  | some x =>
   simp only
   split
   ·exact ⟨utf8_len _,hnu x.1 x.2 hb⟩
   ·exact ⟨by simp,hnu x.1 x.2 hb⟩
end Mk
namespace Go.Proofs.YteidgdpaolieaaaGreatDoor
open Go.RowKit

def strl : Value→Nat | .string b=>b.size | _=>0
theorem strl_st (i : List UInt8) : strl (.string (st i)) = i.length:=rfl
theorem idxc_cases (c : UInt8) (l : List UInt8) :
  (Lib.indexByte l c = -1∧c ∉ l) ∨
  ∃ k t,l = l.take k++c :: t∧Lib.indexByte l c = (k : Nat)∧c ∉ l.take k∧k≤l.length∧l.drop (k + 1) = t:=by
 induction l with
 | nil=>exact .inl ⟨rfl,by simp⟩
 | cons b l ih =>
  rw [Lib.indexByte]
  by_cases hc : b = c
  ·subst hc
   exact .inr ⟨0,l,by simp,by simp,by simp,by simp,by simp⟩
  ·have hb : (b == c) = false:=beq_eq_false_iff_ne.2 hc
   rw [hb]
   rcases ih with ⟨h1,h2⟩ | ⟨k,t,h1,h2,h3,h4,h5⟩
   ·left
    rw [h1]
    exact ⟨by simp,by rw [List.mem_cons,not_or];exact ⟨fun e=>hc e.symm,h2⟩⟩
   ·right
    refine ⟨k + 1,t,by rw [List.take_succ_cons,List.cons_append,← h1],?_,?_,by simp;omega,by simpa using h5⟩
    ·rw [h2]
     have : ((k : Int) == -1) = false:=by rw [beq_eq_false_iff_ne];omega
     rw [this];simp
    ·rw [List.take_succ_cons,List.mem_cons,not_or]
     exact ⟨fun e=>hc e.symm,h3⟩
theorem builder_keep {T e : TypeId} {B b : Nat} {bs : List Value} {w w' : World} (h : Lib.IsBuilder T e B b bs w) (hk : ∀ k,k < w.heap.size→w'.heap[k]? = w.heap[k]?) : Lib.IsBuilder T e B b bs w':=by
 have key : ∀ p,Lib.BuilderAt T e B b p bs w→Lib.BuilderAt T e B b p bs w':=by
  intro p h
  have hlt:=h.lt
  obtain ⟨hB,v,hb,hown,hne⟩:=h
  refine ⟨hB,v,(hk b hlt).trans hb,⟨hown.1,?_⟩,hne⟩
  rcases hown.2 with h0 | ⟨g,cap,cur,hv,hbg,hg,h4⟩
  ·exact .inl h0
  ·have hgl : g < w.heap.size:=by
    rcases Nat.lt_or_ge g w.heap.size with h' | h'
    ·exact h'
    ·simp [Array.getElem?_eq_none h'] at hg
   exact .inr ⟨g,cap,cur,hv,hbg,(hk g hgl).trans hg,h4⟩
 exact h.imp (key _) (key _)
/-- Cut at &. -/
theorem cut_amp (l : List UInt8) : (Lib.cut l [38] = (l,[],false)∧(38 : UInt8) ∉ l) ∨ ∃ p t,l = p++38 :: t∧Lib.cut l [38] = (p,t,true)∧(38 : UInt8) ∉ p:=by
 unfold Lib.cut
 rw [Lib.index_one]
 rcases idxc_cases 38 l with ⟨h1,h2⟩ | ⟨k,t,h1,h2,h3,h4,h5⟩
 ·left;rw [h1];exact ⟨rfl,h2⟩
 ·right
  refine ⟨l.take k,t,h1,?_,h3⟩
  rw [h2,if_pos (by omega)]
  simp only [Int.toNat_natCast,List.length_singleton]
  rw [h5]

set_option maxHeartbeats 2000000 in
set_option maxRecDepth 100000 in
theorem esc_Taken (s : ByteArray) (w : World) (hs : s.size≤1048576) (hg : Gl w) :
  Calls Tryz.prog 126 #[.string s] w fun e w'=>e = .returned (.tuple #[.string (st (Mk.take s.data.toList).1),.bool (Mk.take s.data.toList).2])∧Below w.heap.size w w':=by
 have hbu : Lib.IsBuilder 125 5 w.heap.size w.heap.size (Lib.byteCells []) (w.alloc (.cells #[.pointer none,.slice none 0 0] 125)) :=
  .inl ⟨Nat.le_refl _,.slice none 0 0,heap_alloc_new w _,World.ownsRow_nil _ _ _ _,by simp [Value.ownBlock]⟩
 have hl0:=(Below.refl _ w).alloc (Nat.le_refl _) (.cells #[.pointer none,.slice none 0 0] 125)
 have hlt:=hg.lt
 go_enter Tryz.func126,Tryz.ntmps126
 go_wp2_with fail
 change Code.wp _ _ _ _ (w.alloc (.cells #[.pointer none,.slice none 0 0] 125))
 generalize w.alloc (.cells #[.pointer none,.slice none 0 0] 125) = w0 at hbu hl0 ⊢
 go_loopw [0,5] (fun a c wr=>∃ (r o : List UInt8) (ab : Bool),a = .string (st r)∧c = .bool ab∧Hid (Lib.IsBuilder 125 5 w.heap.size w.heap.size (Lib.byteCells o) wr)∧Hid (Below w.heap.size w wr)∧o.length + 4 * r.length≤4 * s.size∧Hid ((o++(Mk.take r).1,ab && (Mk.take r).2) = Mk.take s.data.toList)) (fun a _ _=>strl a)
 case atStart=>exact ⟨s.data.toList,[],true,rfl,rfl,hbu,hl0,by simp,by show _ = _;simp⟩
 case round =>
  obtain ⟨r,o,ab,rfl,rfl,BU,BL,hlen,hx⟩:=hrel
  have hst : ∀ l,(st l).toList = l:=fun l=>Lib.toList_data _
  have hsz:=BL.out.size
  by_cases hr : r = []
  ·subst hr
   have FIN : Hid (Mk.take s.data.toList = (o,ab)):=by show _ = _;rw [← hx.out,Mk.take_nil];simp
   clear hx
   go_wp2_with fail
   refine (Tryz.Builder_String_any w.heap.size w.heap.size _ _ BU.out hsz).mono ?_
   rintro e wz ⟨rfl,hbz⟩
   have lz:=BL.out.trans hbz
   clear hbz BU BL
   go_wp2_with fail
   go_ret2
   exact ⟨by rw [FIN.out];rfl,lz⟩
  have he : r.isEmpty = false:=by
   cases r with
   | nil=>exact absurd rfl hr
   | cons _ _=>rfl
  have hgr:=hg.below BL.out hlt
  obtain ⟨m,hm⟩:=hgr.ml
  have hcut:=Tryz.strings_Cut (st r) (st [38]) m wr (by rw [st_size];omega) hm
  rw [show (st r).data.toList = r from rfl,show (st [38]).data.toList = [38] from rfl] at hcut
  have HCUT:=Lib.hid hcut
  have HG:=Lib.hid hgr
  clear hcut hm hgr hr
  rcases cut_amp r with ⟨hc,hno⟩ | ⟨p,q,hpq,hc,hno⟩
  ·have FIN : Hid (Mk.take s.data.toList = (o++r,ab)):=by
    show _ = _
    have h:=Mk.take_app r [] hno
    rw [List.append_nil,Mk.take_nil] at h
    rw [← hx.out,h];simp
   rw [hc] at HCUT
   change Hid (Calls _ _ _ _ fun e w'=>e = .returned (.tuple #[.string (st r),.string (st []),.bool false])∧∃ n,w' = wr.drewN n) at HCUT
   clear hx hc hno
   go_wp2_with fail
   refine HCUT.out.mono ?_
   rintro e w1 ⟨rfl,n1,rfl⟩
   have BU1 : Hid (Lib.IsBuilder 125 5 w.heap.size w.heap.size (Lib.byteCells o) (wr.drewN n1)):=BU.out
   go_wp2_with fail
   refine (WriteString_any w.heap.size w.heap.size _ (st r) _ BU1.out (by rw [Lib.byteCells_length,st_size];omega) hsz).mono ?_
   rintro e w2 ⟨rfl,hb2,hl2⟩
   have BU2 : Hid (Lib.IsBuilder 125 5 w.heap.size w.heap.size (Lib.byteCells (o++r)) w2):=by
    show Lib.IsBuilder _ _ _ _ _ _
    rw [Lib.byteCells_append];exact .inr hb2
   have BL2 : Hid (Below w.heap.size w w2):=(below_drewN BL.out n1).trans hl2
   clear hb2 hl2 BU1 BU BL
   have hsz2:=BL2.out.size
   go_wp2_with fail
   refine (Tryz.Builder_String_any w.heap.size w.heap.size _ _ BU2.out hsz2).mono ?_
   rintro e wz ⟨rfl,hbz⟩
   have lz:=BL2.out.trans hbz
   clear hbz BU2 BL2
   go_wp2_with fail
   go_ret2
   exact ⟨by rw [FIN.out];rfl,lz⟩
  ·obtain ⟨g1,g2⟩:=Mk.sign_facts (38 :: q)
   have hpl : r.length = p.length + (q.length + 1):=by rw [hpq,List.length_append,List.length_cons]
   obtain ⟨x,hxe⟩ : ∃ x,Mk.sign (38 :: q) = x:=⟨_,rfl⟩
   have HX : Hid ((o++p++x.1++(Mk.take ((38 :: q).drop (max 1 x.2.1))).1,(ab && x.2.2) && (Mk.take ((38 :: q).drop (max 1 x.2.1))).2) = Mk.take s.data.toList):=by
    show _ = _
    rw [← hx.out,hpq,Mk.take_app p _ hno,Mk.take_amp,hxe]
    simp [Bool.and_assoc]
   have hsg:=fun W hG=>esc_sign (st (38 :: q)) W (by rw [st_size,List.length_cons];omega) hG
   rw [show (st (38 :: q)).data.toList = 38 :: q from rfl,hxe] at hsg
   rw [hxe,List.length_cons] at g2
   rw [hxe] at g1
   have HSG:=Lib.hid hsg
   rw [hc] at HCUT
   change Hid (Calls _ _ _ _ fun e w'=>e = .returned (.tuple #[.string (st p),.string (st q),.bool true])∧∃ n,w' = wr.drewN n) at HCUT
   clear hx hc hno hpq hxe hsg
   go_wp2_with fail
   refine HCUT.out.mono ?_
   rintro e w1 ⟨rfl,n1,rfl⟩
   have BU1 : Hid (Lib.IsBuilder 125 5 w.heap.size w.heap.size (Lib.byteCells o) (wr.drewN n1)):=BU.out
   go_wp2_with fail
   refine (WriteString_any w.heap.size w.heap.size _ (st p) _ BU1.out (by rw [Lib.byteCells_length,st_size];omega) hsz).mono ?_
   rintro e w2 ⟨rfl,hb2,hl2⟩
   have BU2 : Hid (Lib.IsBuilder 125 5 w.heap.size w.heap.size (Lib.byteCells (o++p)) w2):=by
    show Lib.IsBuilder _ _ _ _ _ _
    rw [Lib.byteCells_append];exact .inr hb2
   have BL2 : Hid (Below w.heap.size w w2):=(below_drewN BL.out n1).trans hl2
   clear hb2 hl2 BU1 BU BL
   have hsz2:=BL2.out.size
   have hcz : ¬ 9223372036854775807 < (⟨#[38]⟩ : ByteArray).size + (st q).size:=by rw [st_size,show (⟨#[38]⟩ : ByteArray).size = 1 from rfl];omega
   go_wp2_with fail
   rw [show (⟨#[38]⟩ : ByteArray)++st q = st (38 :: q) from app_st (st [38]) (st q)]
   refine (HSG.out _ (hg.below BL2.out hlt)).mono ?_
   rintro e w3 ⟨rfl,hb3⟩
   obtain ⟨x1,n,right⟩:=x
   have BU3 : Hid (Lib.IsBuilder 125 5 w.heap.size w.heap.size (Lib.byteCells (o++p)) w3):=builder_keep BU2.out hb3.block
   have BL3 : Hid (Below w.heap.size w w3):=BL2.out.trans (hb3.mono hsz2)
   clear hb3 BU2 BL2 hsz2 HSG HCUT hcz
   have hsz3:=BL3.out.size
   have g3 : n≤q.length + 1:=g2
   have g4 : x1.length≤4:=g1
   unfold signV
   cases ab
   all_goals
    go_wp2_with fail
    refine (WriteString_any w.heap.size w.heap.size _ (st x1) _ BU3.out (by rw [Lib.byteCells_length,st_size,List.length_append];omega) hsz3).mono ?_
    rintro e w4 ⟨rfl,hb4,hl4⟩
    have BU4 : Hid (Lib.IsBuilder 125 5 w.heap.size w.heap.size (Lib.byteCells (o++p++x1)) w4):=by
     show Lib.IsBuilder _ _ _ _ _ _
     rw [Lib.byteCells_append];exact .inr hb4
    have BL4 : Hid (Below w.heap.size w w4):=BL3.out.trans hl4
    clear hb4 hl4
    have hq1 : ((n : Int) - 1)≤(st q).size:=by rw [st_size];omega
    by_cases hn0 : n = 0
    ·subst hn0
     go_wp2_with fail
     go_roundw
     case rel=>exact ⟨q,o++p++x1,_,by rw [extract_suf];rfl,rfl,BU4,BL4,by rw [List.length_append,List.length_append];omega,HX⟩
     case measure =>
      have hz : (st r).size = p.length + (q.length + 1):=hpl
      first
       | (rw [extract_suf,strl_st,strl_st,bs_st];rw [List.length_drop];omega)
       | (rw [strl_st,strl_st];omega)
    ·obtain ⟨j,rfl⟩ : ∃ j,n = j + 1:=⟨n - 1,by omega⟩
     have hj : (j : Int)≤(st q).size:=by rw [st_size];omega
     rw [show max 1 (j + 1) = j + 1 by omega] at HX
     go_wp2_with fail
     go_roundw
     case rel=>exact ⟨q.drop j,o++p++x1,_,by rw [extract_suf];rfl,rfl,BU4,BL4,by rw [List.length_append,List.length_append,List.length_drop];omega,HX⟩
     case measure =>
      rw [extract_suf,strl_st,strl_st,bs_st,List.length_drop];omega
end Go.Proofs.YteidgdpaolieaaaGreatDoor

/- Contracts of the reference's small words of markup: IsWhite, digit. -/
namespace Mk
theorem white_iff (c : UInt8) : white c = true ↔ (c.toNat : Int) = 9 ∨ (c.toNat : Int) = 10 ∨ (c.toNat : Int) = 12 ∨ (c.toNat : Int) = 13 ∨ (c.toNat : Int) = 32 := by
  have q : ∀ n : Nat, n < 256 → ((c == UInt8.ofNat n) = true ↔ (c.toNat : Int) = n) := fun n hn => by
    rw [beq_iff_eq, ← UInt8.toNat_inj]
    simp [UInt8.toNat_ofNat, Nat.mod_eq_of_lt hn]
    omega
  unfold white
  have q9 := q 9 (by decide); have q10 := q 10 (by decide); have q12 := q 12 (by decide); have q13 := q 13 (by decide); have q32 := q 32 (by decide)
  simp only [Bool.or_eq_true]
  rw [show (9 : UInt8) = UInt8.ofNat 9 from rfl, show (10 : UInt8) = UInt8.ofNat 10 from rfl, show (12 : UInt8) = UInt8.ofNat 12 from rfl, show (13 : UInt8) = UInt8.ofNat 13 from rfl, show (32 : UInt8) = UInt8.ofNat 32 from rfl, q9, q10, q12, q13, q32]
  simp only [or_assoc]
  rfl
end Mk
namespace Go.Proofs.YteidgdpaolieaaaGreatDoor
open Go.RowKit
theorem rf_app (x y : List UInt8) : st x ++ st y = st (x ++ y) := app_st (st x) (st y)
theorem rf_one (s : List UInt8) (k : Nat) (h : k < s.length) : (st s).extract k (k + 1) = st [s[k]] := by
  rw [extract_st, bs_drop (st s) k h, Nat.add_sub_cancel_left]; rfl
set_option maxHeartbeats 1600000 in
theorem rf_IsWhite (c : UInt8) (w : World) : Calls Tryz.prog 94 #[.int .u8 c.toNat] w fun e w' => e = .returned (.bool (Mk.white c)) ∧ w = w' := by
  have hb : (c.toNat : Int) ≤ 255 := by have := c.toNat_lt; omega
  go_enter Tryz.func94, Tryz.ntmps94
  go_wp2_with (go_at_call 110; refine (ref_between _ _ _ _).mono ?_; rintro e w' ⟨rfl, rfl⟩)
  all_goals (go_ret; refine ⟨ret_bool ?_, rfl⟩; rw [Bool.eq_iff_iff, Mk.white_iff]; simp; try omega)
/-- a digit's value of a base; -1: it is none. -/
def digV (b : Nat) (c : UInt8) : Int := if Mk.isDig b c = true then (Mk.dig36 c.toNat : Int) else -1
theorem digV_eq (b : Nat) (c : UInt8) : ∃ n : Nat, (48 ≤ c.toNat ∧ c.toNat ≤ 57 → n = c.toNat - 48) ∧ (97 ≤ c.toNat ∧ c.toNat ≤ 122 → n = c.toNat - 87) ∧ (65 ≤ c.toNat ∧ c.toNat ≤ 90 → n = c.toNat - 55) ∧ (¬ (48 ≤ c.toNat ∧ c.toNat ≤ 57) → ¬ (97 ≤ c.toNat ∧ c.toNat ≤ 122) → ¬ (65 ≤ c.toNat ∧ c.toNat ≤ 90) → n = 99) ∧ (n < b → digV b c = n) ∧ (¬ n < b → digV b c = -1) := by
  refine ⟨Mk.dig36 c.toNat, ?_, ?_, ?_, ?_, fun h => ?_, fun h => ?_⟩
  · intro h; unfold Mk.dig36; rw [if_pos h]
  · intro h; unfold Mk.dig36; rw [if_neg (by omega), if_pos h]
  · intro h; unfold Mk.dig36; rw [if_neg (by omega), if_neg (by omega), if_pos h]
  · intro h1 h2 h3; unfold Mk.dig36; rw [if_neg h1, if_neg h2, if_neg h3]
  · unfold digV; rw [if_pos (show Mk.isDig b c = true from decide_eq_true h)]
  · unfold digV; rw [if_neg (by unfold Mk.isDig; rw [decide_eq_true_eq]; exact h)]
set_option maxHeartbeats 1600000 in
theorem rf_digit (c : UInt8) (b : Nat) (hb : b = 10 ∨ b = 16) (w : World) : Calls Tryz.prog 160 #[.int .u8 c.toNat, .int .i64 b] w fun e w' => e = .returned (.int .i64 (digV b c)) ∧ w = w' := by
  have hc : (c.toNat : Int) ≤ 255 := by have := c.toNat_lt; omega
  have hd := fun b => Lib.hid (digV_eq b c)
  rcases hb with rfl | rfl
  · go_enter Tryz.func160, Tryz.ntmps160
    go_wp2_with (go_at_call 110; refine (ref_between _ _ _ _).mono ?_; rintro e w' ⟨rfl, rfl⟩)
    all_goals (go_ret; refine ⟨ret_int ?_, rfl⟩; obtain ⟨n, d1, d2, d3, d4, d5, d6⟩ := (hd 10).out; by_cases hn : n < 10; · ((try rw [d5 hn]); (try omega))
               · ((try rw [d6 hn]); (try omega)))
  · go_enter Tryz.func160, Tryz.ntmps160
    go_wp2_with (go_at_call 110; refine (ref_between _ _ _ _).mono ?_; rintro e w' ⟨rfl, rfl⟩)
    all_goals (go_ret; refine ⟨ret_int ?_, rfl⟩; obtain ⟨n, d1, d2, d3, d4, d5, d6⟩ := (hd 16).out; by_cases hn : n < 16; · ((try rw [d5 hn]); (try omega))
               · ((try rw [d6 hn]); (try omega)))
theorem byte_cases (c : UInt8) (n : UInt8) : (c = n ∧ ((c.toNat : Int) == (n.toNat : Int)) = true) ∨ (c ≠ n ∧ ((c.toNat : Int) == (n.toNat : Int)) = false) := by
  by_cases h : c = n
  · exact .inl ⟨h, by rw [h]; simp⟩
  · refine .inr ⟨h, ?_⟩
    rw [beq_eq_false_iff_ne]
    intro e
    exact h (UInt8.toNat_inj.1 (by omega))
end Go.Proofs.YteidgdpaolieaaaGreatDoor

/- Contracts of the token reader's small methods: here, pass, need, begins, letterAt. -/
namespace Go.Proofs.YteidgdpaolieaaaGreatDoor
open Go.RowKit

/-- a reader in a block of its own. -/
abbrev rdCells (s : ByteArray) (k : Nat) (tx : List UInt8) (ov : Value) : Array Value:=#[.string s,.int .i64 k,.string (st tx),ov]
def Rd (w : World) (R : Nat) (s : ByteArray) (k : Nat) (tx : List UInt8) (ov : Value) : Prop:=Blk w R 102 (rdCells s k tx ov)
section
variable {w w' : World} {R : Nat} {s : ByteArray} {k : Nat} {tx : List UInt8} {ov : Value}
theorem Rd.c0 (h : Rd w R s k tx ov) : w.cell? ⟨R,0,none⟩ = some (.string s):=h.cell 0
theorem Rd.c1 (h : Rd w R s k tx ov) : w.cell? ⟨R,1,none⟩ = some (.int .i64 k):=h.cell 1
theorem Rd.c2 (h : Rd w R s k tx ov) : w.cell? ⟨R,2,none⟩ = some (.string (st tx)):=h.cell 2
theorem Rd.c3 (h : Rd w R s k tx ov) : w.cell? ⟨R,3,none⟩ = some ov:=h.cell 3
theorem Rd.fz (h : Rd w R s k tx ov) (i : Nat) : w.frozen? ⟨R,i,none⟩ = false:=h.frozen i
theorem Rd.drewN (h : Rd w R s k tx ov) (n : Nat) : Rd (w.drewN n) R s k tx ov:=Blk.drewN h n
theorem Rd.at_ (h : Rd w R s k tx ov) (j : Nat) : Rd (w.setCell ⟨R,1,none⟩ (.int .i64 j)) R s j tx ov:=Blk.set_ h 1 _
end
/-- what a closure on bytes answers: it only computes. -/
def Asks (g : FuncId) (lb : Array Value) (q : UInt8→Bool) (w : World) : Prop:=∀ c : UInt8,Calls Tryz.prog g (#[.int .u8 (c.toNat : Int)]++lb) w fun e w'=>e = .returned (.bool (q c))∧w' = w
/-- a world in which at most a block of a reader has been written, and draws made. -/
structure Moved (R : Nat) (w w' : World) : Prop where
 os : w'.os = w.os
 tape : w'.tape = w.tape
 output : w'.output = w.output
 size : w'.heap.size = w.heap.size
 block : ∀ k,k ≠ R→w'.heap[k]? = w.heap[k]?
theorem Moved.refl (R : Nat) (w : World) : Moved R w w:=⟨rfl,rfl,rfl,rfl,fun _ _=>rfl⟩
theorem Moved.trans {R : Nat} {a b c : World} (h : Moved R a b) (k : Moved R b c) : Moved R a c:=⟨k.os.trans h.os,k.tape.trans h.tape,k.output.trans h.output,k.size.trans h.size,fun i hi=>(k.block i hi).trans (h.block i hi)⟩
theorem Moved.drewN {R : Nat} {a b : World} (h : Moved R a b) (n : Nat) : Moved R a (b.drewN n):=⟨h.os,h.tape,h.output,h.size,h.block⟩
theorem Moved.setCell {R : Nat} {a b : World} (h : Moved R a b) (i : Nat) (v : Value) : Moved R a (b.setCell ⟨R,i,none⟩ v) :=
 ⟨h.os,h.tape,h.output,by rw [← h.size];simp [World.setCell],fun k hk=>(Below.heap_setCell b ⟨R,i,none⟩ v k hk).trans (h.block k hk)⟩
theorem Moved.below {R B : Nat} {a b : World} (h : Moved R a b) (hB : B≤R) : Below B a b:=⟨h.os,h.tape,h.output,by rw [h.size];exact Nat.le_refl _,fun k hk=>h.block k (by omega)⟩

section
variable {w : World} {R : Nat} {s : ByteArray} {k : Nat} {tx : List UInt8} {ov : Value}
set_option maxHeartbeats 1000000 in
theorem rd_here_in (g : FuncId) (lb : Array Value) (q : UInt8→Bool) (eg : ∀ args w,(callFunc g args).run Tryz.prog w = .ok (.enter g args) w) (h : Rd w R s k tx ov) (hk : k < s.size) (hq : ∀ n,Asks g lb q (w.drewN n)) :
  Calls Tryz.prog 174 #[.pointer (some ⟨R,0,none⟩),.func (.func g) #[] lb] w fun e w'=>e = .returned (.bool (q s[k]))∧∃ n,w' = w.drewN n:=by
 have c0:=h.c0
 have c1:=h.c1
 have hk1 : (k : Int) < s.size:=by omega
 have HQ:=Lib.hid hq
 clear hq
 go_enter Tryz.func174,Tryz.ntmps174
 go_wp2_with fail
 go_quiet ((go_at_fn g;exact (HQ.out _ _).mono fun e w'' hh=>⟨hh.1,_,hh.2⟩))
 go_wp2_with fail
 go_ret
 exact ⟨rfl,_,rfl⟩
set_option maxHeartbeats 1000000 in
theorem rd_here_end (fv : Value) (h : Rd w R s k tx ov) (hk : s.size≤k) :
  Calls Tryz.prog 174 #[.pointer (some ⟨R,0,none⟩),fv] w fun e w'=>e = .returned (.bool false)∧∃ n,w' = w.drewN n:=by
 have c0:=h.c0
 have c1:=h.c1
 have hd : decide (k < s.size) = false:=decide_eq_false (by omega)
 go_enter Tryz.func174,Tryz.ntmps174
 go_wp2_with fail
 go_quiet (fail)
 go_wp2_with fail
 go_ret
 exact ⟨rfl,_,rfl⟩
end
end Go.Proofs.YteidgdpaolieaaaGreatDoor

/- Contracts of the token reader's small methods: pass, need, begins, letterAt, to. Condition: a text of at most 1048576 bytes. -/
namespace Mk
def headIs (q : UInt8→Bool) : Bs→Bool | []=>false | c :: _=>q c
theorem behind_is (p : Bs) (hp : p ≠ []) (l : Bs) : behind p l = if Go.Lib.index l p = -1 then none else some (l.drop ((Go.Lib.index l p).toNat + p.length)):=by
 induction l with
 | nil =>
  cases p with
  | nil=>exact absurd rfl hp
  | cons _ _=>rfl
 | cons c t ih =>
  have hpre : Mg.pre p (c :: t) = p.isPrefixOf (c :: t):=by
   unfold Mg.pre
   rw [Bool.eq_iff_iff,List.isPrefixOf_iff_prefix,beq_iff_eq,List.prefix_iff_eq_take]
   exact eq_comm
  unfold behind Go.Lib.index
  rw [hpre]
  cases h : p.isPrefixOf (c :: t) with
  | true=>simp
  | false =>
   rw [ih]
   have hge:=Go.Lib.index_ge t p
   by_cases h1 : Go.Lib.index t p = -1
   ·simp [h1]
   ·have h2 : (Go.Lib.index t p == -1) = false:=beq_eq_false_iff_ne.2 h1
    have h3 : ¬ (Go.Lib.index t p + 1 = -1):=by omega
    rw [h2]
    simp only [Bool.false_eq_true,if_false,if_neg h1,if_neg h3]
    congr 1
    rw [show (Go.Lib.index t p + 1).toNat + p.length = ((Go.Lib.index t p).toNat + p.length) + 1 by omega,List.drop_succ_cons]
end Mk
namespace Go.Proofs.YteidgdpaolieaaaGreatDoor
open Go.RowKit
/-- what a reader gives up with. -/
def openV : Value:=.iface 144 (.agg #[])
abbrev Gave : Ending:=.panicked [{ v:=openV,recovered:=false }]
section
variable {w : World} {R : Nat} {s : ByteArray} {k : Nat} {tx : List UInt8} {ov : Value}
theorem Rd.shape (h : Rd w R s k tx ov) : w.shape? R = some (102,4):=by
 have : w.heap[R]? = _:=h
 simp [World.shape?,this]
theorem rd_here (g : FuncId) (lb : Array Value) (q : UInt8→Bool) (eg : ∀ args w,(callFunc g args).run Tryz.prog w = .ok (.enter g args) w) (h : Rd w R s k tx ov) (hq : ∀ n,Asks g lb q (w.drewN n)) :
  Calls Tryz.prog 174 #[.pointer (some ⟨R,0,none⟩),.func (.func g) #[] lb] w fun e w'=>e = .returned (.bool (Mk.headIs q (s.data.toList.drop k)))∧∃ n,w' = w.drewN n:=by
 by_cases hk : k < s.size
 ·rw [bs_drop s k hk];exact rd_here_in g lb q eg h hk hq
 ·rw [List.drop_of_length_le (by simp;omega)];exact rd_here_end _ h (by omega)

def atOf (w : World) (R : Nat) : Nat:=match w.cell? ⟨R,1,none⟩ with | some (.int _ n)=>n.toNat | _=>0
theorem Rd.atOf (h : Rd w R s k tx ov) : atOf w R = k:=by unfold Go.Proofs.YteidgdpaolieaaaGreatDoor.atOf;rw [h.c1];exact Int.toNat_natCast k

set_option maxHeartbeats 2000000 in
theorem rd_pass (g : FuncId) (lb : Array Value) (q : UInt8→Bool) (eg : ∀ args w,(callFunc g args).run Tryz.prog w = .ok (.enter g args) w) (h : Rd w R s k tx ov) (hk : k≤s.size) (hs : s.size≤1048576) (hq : ∀ w',Moved R w w'→Asks g lb q w') :
  Calls Tryz.prog 153 #[.pointer (some ⟨R,0,none⟩),.func (.func g) #[] lb] w fun e w'=>e = .returned (.string (st ((s.data.toList.drop k).takeWhile q)))∧Rd w' R s (k + ((s.data.toList.drop k).takeWhile q).length) tx ov∧Moved R w w':=by
 have c1:=h.c1
 go_enter Tryz.func153,Tryz.ntmps153
 go_wp2_with fail
 have HQ:=Lib.hid hq
 clear hq
 go_loopw [12] (fun _ wr=>∃ j,k≤j∧j≤s.size∧Hid (Rd wr R s j tx ov)∧Hid (Moved R w wr)∧Hid ((s.data.toList.drop k).takeWhile q = (s.data.toList.drop k).take (j - k)++(s.data.toList.drop j).takeWhile q)) (fun _ wr=>s.size - atOf wr R)
 case atStart=>exact ⟨k,Nat.le_refl _,hk,h,Moved.refl R w,by show _ = _;simp⟩
 case round =>
  obtain ⟨j,hkj,hj,RD,MV,EQ⟩:=hrel
  have d0:=RD.out.c0
  have d1:=RD.out.c1
  have f1:=RD.out.fz 1
  obtain ⟨b,hb⟩ : ∃ b,Mk.headIs q (s.data.toList.drop j) = b:=⟨_,rfl⟩
  have hc:=rd_here g lb q eg RD.out (fun n=>HQ.out _ (MV.out.drewN n))
  rw [hb] at hc
  have HC:=Lib.hid hc
  clear hc
  cases b with
  | true =>
   have hlt : j < s.size:=by
    rcases Nat.lt_or_ge j s.size with h1 | h1
    ·exact h1
    ·rw [List.drop_of_length_le (by simp;omega)] at hb;cases hb
   have EQ2 : Hid ((s.data.toList.drop k).takeWhile q = (s.data.toList.drop k).take (j + 1 - k)++(s.data.toList.drop (j + 1)).takeWhile q):=by
    show _ = _
    rw [bs_drop s j hlt] at hb
    have hq1 : q s[j] = true:=hb
    have e1 : (s.data.toList.drop k).take (j + 1 - k) = (s.data.toList.drop k).take (j - k)++[s[j]]:=by
     rw [show j + 1 - k = (j - k) + 1 by omega,List.take_add_one,List.getElem?_drop,show k + (j - k) = j by omega]
     rw [List.getElem?_eq_getElem (by simpa using hlt)];rfl
    rw [EQ.out,e1,bs_drop s j hlt,List.takeWhile_cons,if_pos hq1]
    simp
   clear EQ hb
   go_wp2_with fail
   refine HC.out.mono ?_
   rintro e w1 ⟨rfl,n,rfl⟩
   go_wp2_with fail
   go_roundw
   case rel=>exact ⟨j + 1,by omega,by omega,by show Rd _ _ _ _ _ _;have:=(RD.out.drewN n).at_ (j + 1);simpa using this,by show Moved _ _ _;have:=(MV.out.drewN n).setCell 1 (.int .i64 ((j + 1 : Nat) : Int));simpa using this,EQ2⟩
   case measure =>
    have e1:=RD.out.atOf
    have e2:=((RD.out.drewN n).at_ (j + 1)).atOf
    simp at e1 e2 ⊢
    omega
  | false =>
   have e3 : (s.data.toList.drop j).takeWhile q = []:=by
    cases hd : s.data.toList.drop j with
    | nil=>rfl
    | cons c t=>rw [hd] at hb;have hq1 : q c = false:=hb;rw [List.takeWhile_cons,hq1];rfl
   have EQ2 : Hid ((s.data.toList.drop k).takeWhile q = (s.data.toList.drop k).take (j - k)):=by
    show _ = _
    rw [EQ.out,e3,List.append_nil]
   clear EQ hb e3
   go_wp2_with fail
   refine HC.out.mono ?_
   rintro e w1 ⟨rfl,n,rfl⟩
   have hkj' : (k : Int)≤j:=by omega
   have hjs : (j : Int)≤s.size:=by omega
   go_wp2_with fail
   go_quiet (fail)
   go_wp2_with fail
   go_ret
   refine ⟨?_,?_,(MV.out.drewN _).drewN _⟩
   ·rw [EQ2.out,extract_st];simp
   ·have : k + ((s.data.toList.drop k).take (j - k)).length = j:=by rw [List.length_take,List.length_drop,bs_len];omega
    rw [EQ2.out,this];exact (RD.out.drewN _).drewN _

set_option maxHeartbeats 1000000 in
theorem rd_need_in (h : Rd w R s k tx ov) (hk : k < s.size) (hs : s.size≤1048576) :
  Calls Tryz.prog 191 #[.pointer (some ⟨R,0,none⟩)] w fun e w'=>e = .returned (.int .u8 (s[k].toNat : Int))∧Rd w' R s (k + 1) tx ov∧Moved R w w':=by
 have c0:=h.c0
 have c1:=h.c1
 have f1:=h.fz 1
 have hne : ((k : Int) == s.size) = false:=by rw [beq_eq_false_iff_ne];omega
 go_enter Tryz.func191,Tryz.ntmps191
 go_wp2_with fail
 go_quiet (fail)
 go_wp2_with fail
 have RD : Rd ((w.drewN nq).setCell ⟨R,1,none⟩ (.int .i64 ((k : Int) + 1))) R s (k + 1) tx ov:=by have:=(h.drewN nq).at_ (k + 1);simpa using this
 have MV:=((Moved.refl R w).drewN nq).setCell 1 (.int .i64 ((k : Int) + 1))
 have RD:=Lib.hid RD
 have MV:=Lib.hid MV
 generalize ((w.drewN nq).setCell ⟨R,1,none⟩ (.int .i64 ((k : Int) + 1))) = w1 at RD MV ⊢
 have d0:=RD.out.c0
 have d1:=RD.out.c1
 clear c0 c1 f1
 go_wp2_with fail
 go_quiet (fail)
 go_wp2_with fail
 go_ret
 exact ⟨rfl,RD.out.drewN _,MV.out.drewN _⟩
set_option maxHeartbeats 1000000 in
theorem rd_need_end (h : Rd w R s k tx ov) (hk : k = s.size) :
  Calls Tryz.prog 191 #[.pointer (some ⟨R,0,none⟩)] w fun e w'=>e = Gave∧Rd w' R s k tx ov∧Moved R w w':=by
 have c0:=h.c0
 have c1:=h.c1
 subst hk
 go_enter Tryz.func191,Tryz.ntmps191
 go_wp2_with fail
 go_quiet (fail)
 go_wp2_with fail
 exact ⟨rfl,rfl,h.drewN _,(Moved.refl R w).drewN _⟩

set_option maxHeartbeats 1000000 in
theorem rd_begins (p : ByteArray) (h : Rd w R s k tx ov) (hk : k≤s.size) (hs : s.size≤1048576) :
  Calls Tryz.prog 152 #[.pointer (some ⟨R,0,none⟩),.string p] w fun e w'=>e = .returned (.bool (Mg.pre p.data.toList (s.data.toList.drop k)))∧∃ n,w' = w.drewN n:=by
 have c0:=h.c0
 have c1:=h.c1
 have hk1 : (k : Int)≤s.size:=by omega
 have hsp:=fun W=>esc_pre (s.extract k s.size) p.data.toList W
 rw [show (s.extract k s.size).data.toList = s.data.toList.drop k from by rw [extract_st,bs_st,List.take_of_length_le (by rw [List.length_drop,bs_len];omega)],st_bs] at hsp
 have HSP:=Lib.hid hsp
 clear hsp
 go_enter Tryz.func152,Tryz.ntmps152
 go_wp2_with fail
 go_quiet ((go_at_call 167;exact (HSP.out _).mono fun e w'' hh=>⟨hh.1,_,hh.2.symm⟩))
 go_wp2_with fail
 go_ret
 exact ⟨rfl,_,rfl⟩
theorem mk_letter (c : UInt8) (w : World) :
  Calls Tryz.prog 175 #[.int .u8 c.toNat] w fun e w'=>e = .returned (.bool (Mg.isLet c))∧w = w':=by
 have hb : (c.toNat : Int)≤255:=by have:=c.toNat_lt;omega
 go_enter Tryz.func175,Tryz.ntmps175
 go_wp2_with fail
 all_goals (go_ret;refine ⟨ret_bool ?_,rfl⟩;rw [Bool.eq_iff_iff,Mg.isLet_iff];simp;try omega)
set_option maxHeartbeats 1000000 in
theorem rd_letterAt (m : Nat) (h : Rd w R s k tx ov) (hk : k≤s.size) (hs : s.size≤1048576) (hm : m≤2) :
  Calls Tryz.prog 155 #[.pointer (some ⟨R,0,none⟩),.int .i64 m] w fun e w'=>e = .returned (.bool (Mk.letAt (s.data.toList.drop (k + m))))∧∃ n,w' = w.drewN n:=by
 have c0:=h.c0
 have c1:=h.c1
 obtain ⟨j,hj⟩ : ∃ j : Nat,j = k + m:=⟨_,rfl⟩
 have hw : IntKind.i64.wrap ((k : Int) + m) = j:=by rw [IntKind.wrap_i64];omega
 rw [← hj]
 clear hj
 by_cases hlt : j < s.size
 ·have hi : (j : Int) < s.size:=by omega
  have hl:=fun W=>mk_letter s[j] W
  have HL:=Lib.hid hl
  clear hl
  rw [bs_drop s j hlt]
  go_enter Tryz.func155,Tryz.ntmps155
  go_wp2_with fail
  go_quiet ((go_at_call 175;exact (HL.out _).mono fun e w'' hh=>⟨hh.1,_,hh.2.symm⟩))
  go_wp2_with fail
  go_ret
  exact ⟨rfl,_,rfl⟩
 ·have hd : decide (j < s.size) = false:=decide_eq_false (by omega)
  rw [List.drop_of_length_le (by simp;omega)]
  go_enter Tryz.func155,Tryz.ntmps155
  go_wp2_with fail
  go_quiet (fail)
  go_wp2_with fail
  go_ret
  exact ⟨rfl,_,rfl⟩
end
end Go.Proofs.YteidgdpaolieaaaGreatDoor
