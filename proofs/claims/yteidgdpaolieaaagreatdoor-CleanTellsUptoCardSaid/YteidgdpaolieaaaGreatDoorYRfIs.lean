/- Contract of the reference's IsSafe: it returns just what the plain Lean function says. Condition: a text of at most 67108864 bytes. -/
import Derived.Test.YteidgdpaolieaaaGreatDoorYMkHtOk
set_option linter.unusedVariables false
set_option linter.unusedSimpArgs false
namespace Go.Proofs.YteidgdpaolieaaaGreatDoor
open Go.RowKit

def keep32 (l : List UInt8) : List UInt8:=l.filter (fun c=>decide (32 < c))
theorem keep_yes (l : List UInt8) (c : UInt8) (h : 32 < (c.toNat : Int)) : keep32 (l++[c]) = keep32 l++[c]:=by
 have : decide (32 < c) = true:=by rw [decide_eq_true_eq,UInt8.lt_iff_toNat_lt];show 32 < c.toNat;omega
 simp [keep32,List.filter_append,this]
theorem keep_no (l : List UInt8) (c : UInt8) (h : ¬ 32 < (c.toNat : Int)) : keep32 (l++[c]) = keep32 l:=by
 have : decide (32 < c) = false:=by rw [decide_eq_false_iff_not,UInt8.lt_iff_toNat_lt];show ¬ 32 < c.toNat;omega
 simp [keep32,List.filter_append,this]
theorem keep_len (l : List UInt8) : (keep32 l).length≤l.length:=List.length_filter_le _ _
theorem extract_one (s : ByteArray) (k : Nat) (h : k < s.size) : s.extract k (k + 1) = st [s[k]]:=by
 rw [extract_st,bs_drop s k h,Nat.add_sub_cancel_left];rfl
set_option maxHeartbeats 1000000 in
theorem ref_IsSafe (s : ByteArray) (w : World) (hs : s.size≤67108864) :
  Calls Tryz.prog 36 #[.string s] w fun e w'=>e = .returned (.bool (Mg.isSafe s.data.toList))∧Below w.heap.size w w':=by
 go_enter Tryz.func36,Tryz.ntmps36
 go_wp2_with fail
 go_loop [3,4] (fun v i=>∃ k : Nat,k≤s.size∧i = .int .i64 k∧v = .string (st (keep32 (s.data.toList.take k)))) (fun _ i=>s.size - (intOf i).toNat)
 case atStart=>exact ⟨0,Nat.zero_le _,rfl,rfl⟩
 case round =>
  obtain ⟨k,hk,rfl,rfl⟩:=hrel
  have hkl:=keep_len (s.data.toList.take k)
  rw [List.length_take] at hkl
  by_cases hlt : k < s.size
  ·have hb : (s[k].toNat : Int)≤255:=by have:=s[k].toNat_lt;omega
   have hx:=extract_one s k hlt
   have hsz : ¬ 9223372036854775807 < (st (keep32 (s.data.toList.take k))).size + (st [s[k]]).size:=by rw [st_size,st_size];simp;omega
   have HT:=Lib.hid (bs_take s k hlt)
   clear hkl
   by_cases h32 : 32 < (s[k].toNat : Int)
   ·have HF:=Lib.hid (keep_yes (s.data.toList.take k) s[k] h32)
    go_wp2_with fail
    go_round
    case rel=>exact ⟨k + 1,by omega,by go_num,by rw [HT.out,HF.out,app_st];rfl⟩
    case measure=>simp [intOf];omega
   ·have HF:=Lib.hid (keep_no (s.data.toList.take k) s[k] h32)
    go_wp2_with fail
    go_round
    case rel=>exact ⟨k + 1,by omega,by go_num,by rw [HT.out,HF.out]⟩
    case measure=>simp [intOf];omega
  ·have hd : decide (k < s.size) = false:=by simpa using hlt
   rw [List.take_of_length_le (by simp;omega)] at hkl ⊢
   have hfin : Mg.isSafe s.data.toList = Mg.safeWord (Mg.fold ((keep32 s.data.toList).take (Mg.schOf (keep32 s.data.toList)))):=rfl
   have HF:=Lib.hid hfin
   clear hfin
   obtain ⟨t,ht⟩ : ∃ t,keep32 s.data.toList = t:=⟨_,rfl⟩
   rw [ht] at HF hkl ⊢
   have hle:=schOf_le t
   have htl : t.length≤67108864:=by omega
   obtain ⟨n,hn⟩ : ∃ n,Mg.schOf t = n:=⟨_,rfl⟩
   rw [hn] at HF hle
   have HN:=Lib.hid hn
   clear hn ht hkl
   go_wp2_with fail
   refine (ref_schemeOf (st t) _ (by rw [st_size];omega)).mono ?_
   rintro e w1 ⟨rfl,rfl⟩
   rw [show Mg.schOf (st t).data.toList = n from HN.out]
   have hns : (n : Int)≤(st t).size:=by rw [st_size];omega
   go_wp2_with fail
   rw [extract_pre]
   refine (ref_FoldOf (st (t.take n)) _ (by rw [st_size,List.length_take];omega)).mono ?_
   rintro e w2 ⟨rfl,hb2⟩
   obtain ⟨f,hf⟩ : ∃ f,Mg.fold (t.take n) = f:=⟨_,rfl⟩
   rw [show (⟨(Mg.fold (st (t.take n)).data.toList).toArray⟩ : ByteArray) = st f from congrArg st hf]
   rw [hf] at HF
   have hst : ∀ l,(st l).toList = l:=fun l=>Lib.toList_data _
   clear hf
   cases h1 : f == [104,116,116,112] with
   | true =>
    have E : Hid (Mg.isSafe s.data.toList = true):=by show _ = _;rw [HF.out];simp [Mg.safeWord,h1]
    go_wp2_with fail
    go_ret
    exact ⟨by rw [E.out];rfl,hb2⟩
   | false =>
   cases h2 : f == [104,116,116,112,115] with
   | true =>
    have E : Hid (Mg.isSafe s.data.toList = true):=by show _ = _;rw [HF.out];simp [Mg.safeWord,h2]
    go_wp2_with fail
    go_ret
    exact ⟨by rw [E.out];rfl,hb2⟩
   | false =>
   cases h3 : f == [109,97,105,108,116,111] with
   | true =>
    have E : Hid (Mg.isSafe s.data.toList = true):=by show _ = _;rw [HF.out];simp [Mg.safeWord,h3]
    go_wp2_with fail
    go_ret
    exact ⟨by rw [E.out];rfl,hb2⟩
   | false =>
    have E : Hid (Mg.isSafe s.data.toList = false):=by show _ = _;rw [HF.out];simp [Mg.safeWord,h1,h2,h3]
    go_wp2_with fail
    go_ret
    exact ⟨by rw [E.out];rfl,hb2⟩
end Go.Proofs.YteidgdpaolieaaaGreatDoor
