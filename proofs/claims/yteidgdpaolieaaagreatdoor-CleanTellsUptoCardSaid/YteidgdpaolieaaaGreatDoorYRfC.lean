/- Contract of the reference's row: a code point's bytes. -/
import Derived.Test.YteidgdpaolieaaaGreatDoorYMkTaken
import Derived.Test.YteidgdpaolieaaaGreatDoorYRfL
set_option linter.unusedVariables false
set_option linter.unusedSimpArgs false
namespace Go.Proofs.YteidgdpaolieaaaGreatDoor
open Go.RowKit
/-- the bytes of a block, as a text. -/
theorem conv_blk (W : World) (g base n : Nat) (bs : List UInt8) (vs : Array Value) (hB : Blk W g 5 vs) (hv : (bv bs).toArray = vs) (hg : base≤g) (hn : bs.length = n) (hm : n≤9223372036854775807) :
  (convert 120 9 (.slice (some ⟨g,0,none⟩) n n)).run Tryz.prog W = .ok (.string (st bs)) W:=by
 rw [← hv] at hB
 exact run_convert_own (P:=Tryz.prog) W 120 9 5 Tryz.underlying120 Tryz.underlying5 Tryz.underlying9 (base:=base) (n:=n) (v:=.slice (some ⟨g,0,none⟩) n n) bs
  ⟨by rw [bv_len,hn,Nat.mul_one],.inr ⟨g,n,(bv bs).toArray,rfl,hg,hB,Nat.le_refl _,hm,by rw [Nat.mul_one];show (bv bs).length = n;rw [bv_len,hn],by rw [Nat.mul_one];show (bv bs).take n = bv bs;rw [List.take_of_length_le (by rw [bv_len,hn];exact Nat.le_refl _)]⟩⟩
theorem byte_val (n : Nat) (h : n < 256) : (Value.int .u8 ((UInt8.ofNat n).toNat : Int)) = .int .u8 (n : Int):=by
 have e : (UInt8.ofNat n).toNat = n:=by simp;omega
 rw [e]
set_option maxHeartbeats 4000000 in
set_option maxRecDepth 100000 in
theorem rf_row (p : Nat) (w : World) (hp : Mk.scalar p = true) :
  Calls Tryz.prog 161 #[.int .i64 p] w fun e w'=>e = .returned (.string (st (Mk.utf8 p)))∧Below w.heap.size w w':=by
 have hpl : (p : Int)≤1114111:=by
  rw [scalar_is] at hp
  rw [Bool.and_eq_true,Bool.and_eq_true] at hp
  have:=of_decide_eq_true hp.1.2
  omega
 have hal:=fun (W : World) (hW : Below w.heap.size w W) o=>hW.trans (((Below.refl W.heap.size W).alloc (Nat.le_refl _) o).mono hW.size)
 have HAL:=Lib.hid hal
 have H0:=Lib.hid (Below.refl w.heap.size w)
 obtain ⟨u,hu⟩ : ∃ u,Mk.utf8 p = u:=⟨_,rfl⟩
 rw [hu]
 clear hal hp
 by_cases h1 : p < 128
 ·have h1i : ¬ (128 : Int)≤p:=by omega
  have h2i : ¬ (2048 : Int)≤p:=by omega
  have h3i : ¬ (65536 : Int)≤p:=by omega
  have HN : Hid (u.length = 1):=by show _ = _;rw [← hu];unfold Mk.utf8;rw [if_pos h1];rfl
  have HV : Hid ((bv u).toArray = #[Value.int .u8 ((p : Int))]):=by
   show _ = _
   rw [← hu];unfold Mk.utf8;rw [if_pos h1]
   simp only [bv,List.map]
   rw [byte_val _ (by omega)]
  clear hu
  go_enter Tryz.func161,Tryz.ntmps161
  go_upto_region 8 with fail
  have HB0:=H0
  have hs0 : w.heap.size = w.heap.size:=rfl
  have hb:=Blk.new w 5 #[Value.int .u8 ((p : Int))]
  have hcv:=conv_blk _ (w.heap.size) w.heap.size 1 u _ hb HV.out (by omega) HN.out (by decide)
  have HB:=Lib.hid (HAL.out w HB0.out (.cells #[Value.int .u8 ((p : Int))] 5))
  clear hb HV HAL H0 HB0 hs0
  go_wp2_with fail
  go_ret
  exact ⟨rfl,HB.out⟩
 by_cases h2 : p < 2048
 ·have h1i : (128 : Int)≤p:=by omega
  have h2i : ¬ (2048 : Int)≤p:=by omega
  have h3i : ¬ (65536 : Int)≤p:=by omega
  have HN : Hid (u.length = 2):=by show _ = _;rw [← hu];unfold Mk.utf8;rw [if_neg h1,if_pos h2];rfl
  have HV : Hid ((bv u).toArray = #[Value.int .u8 (192 + (p : Int) / 64),Value.int .u8 (128 + (p : Int) % 64)]):=by
   show _ = _
   rw [← hu];unfold Mk.utf8;rw [if_neg h1,if_pos h2]
   simp only [bv,List.map]
   rw [byte_val _ (by omega),byte_val _ (by omega)]
   simp
  clear hu
  go_enter Tryz.func161,Tryz.ntmps161
  go_upto_region 8 with fail
  have HB0:=H0
  have hs0 : w.heap.size = w.heap.size:=rfl
  have HB1:=Lib.hid (HAL.out w HB0.out (.cells #[Value.int .u8 ((p : Int) % 256)] 5))
  have hs1 : (w.alloc (.cells #[Value.int .u8 ((p : Int) % 256)] 5)).heap.size = w.heap.size + 1:=by simp
  generalize (w.alloc (.cells #[Value.int .u8 ((p : Int) % 256)] 5)) = w1 at HB1 hs1 ⊢
  have hb:=Blk.new w1 5 #[Value.int .u8 (192 + (p : Int) / 64),Value.int .u8 (128 + (p : Int) % 64)]
  rw [hs1] at hb
  have hcv:=conv_blk _ (w.heap.size + 1) w.heap.size 2 u _ hb HV.out (by omega) HN.out (by decide)
  have HB:=Lib.hid (HAL.out w1 HB1.out (.cells #[Value.int .u8 (192 + (p : Int) / 64),Value.int .u8 (128 + (p : Int) % 64)] 5))
  clear hb HV HAL H0 HB0 hs0 HB1 hs1
  go_wp2_with fail
  go_ret
  exact ⟨rfl,HB.out⟩
 by_cases h3 : p < 65536
 ·have h1i : (128 : Int)≤p:=by omega
  have h2i : (2048 : Int)≤p:=by omega
  have h3i : ¬ (65536 : Int)≤p:=by omega
  have HN : Hid (u.length = 3):=by show _ = _;rw [← hu];unfold Mk.utf8;rw [if_neg h1,if_neg h2,if_pos h3];rfl
  have HV : Hid ((bv u).toArray = #[Value.int .u8 (224 + (p : Int) / 4096),Value.int .u8 (128 + (p : Int) / 64 % 64),Value.int .u8 (128 + (p : Int) % 64)]):=by
   show _ = _
   rw [← hu];unfold Mk.utf8;rw [if_neg h1,if_neg h2,if_pos h3]
   simp only [bv,List.map]
   rw [byte_val _ (by omega),byte_val _ (by omega),byte_val _ (by omega)]
   simp
  clear hu
  go_enter Tryz.func161,Tryz.ntmps161
  go_upto_region 8 with fail
  have HB0:=H0
  have hs0 : w.heap.size = w.heap.size:=rfl
  have HB1:=Lib.hid (HAL.out w HB0.out (.cells #[Value.int .u8 ((p : Int) % 256)] 5))
  have hs1 : (w.alloc (.cells #[Value.int .u8 ((p : Int) % 256)] 5)).heap.size = w.heap.size + 1:=by simp
  generalize (w.alloc (.cells #[Value.int .u8 ((p : Int) % 256)] 5)) = w1 at HB1 hs1 ⊢
  have HB2:=Lib.hid (HAL.out w1 HB1.out (.cells #[Value.int .u8 ((192 + (p : Int) / 64) % 256),Value.int .u8 (128 + (p : Int) % 64)] 5))
  have hs2 : (w1.alloc (.cells #[Value.int .u8 ((192 + (p : Int) / 64) % 256),Value.int .u8 (128 + (p : Int) % 64)] 5)).heap.size = w.heap.size + 1 + 1:=by simp [hs1]
  generalize (w1.alloc (.cells #[Value.int .u8 ((192 + (p : Int) / 64) % 256),Value.int .u8 (128 + (p : Int) % 64)] 5)) = w2 at HB2 hs2 ⊢
  have hb:=Blk.new w2 5 #[Value.int .u8 (224 + (p : Int) / 4096),Value.int .u8 (128 + (p : Int) / 64 % 64),Value.int .u8 (128 + (p : Int) % 64)]
  rw [hs2] at hb
  have hcv:=conv_blk _ (w.heap.size + 1 + 1) w.heap.size 3 u _ hb HV.out (by omega) HN.out (by decide)
  have HB:=Lib.hid (HAL.out w2 HB2.out (.cells #[Value.int .u8 (224 + (p : Int) / 4096),Value.int .u8 (128 + (p : Int) / 64 % 64),Value.int .u8 (128 + (p : Int) % 64)] 5))
  clear hb HV HAL H0 HB0 hs0 HB1 hs1 HB2 hs2
  go_wp2_with fail
  go_ret
  exact ⟨rfl,HB.out⟩
 have h1i : (128 : Int)≤p:=by omega
 have h2i : (2048 : Int)≤p:=by omega
 have h3i : (65536 : Int)≤p:=by omega
 have HN : Hid (u.length = 4):=by show _ = _;rw [← hu];unfold Mk.utf8;rw [if_neg h1,if_neg h2,if_neg h3];rfl
 have HV : Hid ((bv u).toArray = #[Value.int .u8 (240 + (p : Int) / 262144),Value.int .u8 (128 + (p : Int) / 4096 % 64),Value.int .u8 (128 + (p : Int) / 64 % 64),Value.int .u8 (128 + (p : Int) % 64)]):=by
  show _ = _
  rw [← hu];unfold Mk.utf8;rw [if_neg h1,if_neg h2,if_neg h3]
  simp only [bv,List.map]
  rw [byte_val _ (by omega),byte_val _ (by omega),byte_val _ (by omega),byte_val _ (by omega)]
  simp
 clear hu
 go_enter Tryz.func161,Tryz.ntmps161
 go_upto_region 8 with fail
 have HB0:=H0
 have hs0 : w.heap.size = w.heap.size:=rfl
 have HB1:=Lib.hid (HAL.out w HB0.out (.cells #[Value.int .u8 ((p : Int) % 256)] 5))
 have hs1 : (w.alloc (.cells #[Value.int .u8 ((p : Int) % 256)] 5)).heap.size = w.heap.size + 1:=by simp
 generalize (w.alloc (.cells #[Value.int .u8 ((p : Int) % 256)] 5)) = w1 at HB1 hs1 ⊢
 have HB2:=Lib.hid (HAL.out w1 HB1.out (.cells #[Value.int .u8 ((192 + (p : Int) / 64) % 256),Value.int .u8 (128 + (p : Int) % 64)] 5))
 have hs2 : (w1.alloc (.cells #[Value.int .u8 ((192 + (p : Int) / 64) % 256),Value.int .u8 (128 + (p : Int) % 64)] 5)).heap.size = w.heap.size + 1 + 1:=by simp [hs1]
 generalize (w1.alloc (.cells #[Value.int .u8 ((192 + (p : Int) / 64) % 256),Value.int .u8 (128 + (p : Int) % 64)] 5)) = w2 at HB2 hs2 ⊢
 have HB3:=Lib.hid (HAL.out w2 HB2.out (.cells #[Value.int .u8 ((224 + (p : Int) / 4096) % 256),Value.int .u8 (128 + (p : Int) / 64 % 64),Value.int .u8 (128 + (p : Int) % 64)] 5))
 have hs3 : (w2.alloc (.cells #[Value.int .u8 ((224 + (p : Int) / 4096) % 256),Value.int .u8 (128 + (p : Int) / 64 % 64),Value.int .u8 (128 + (p : Int) % 64)] 5)).heap.size = w.heap.size + 1 + 1 + 1:=by simp [hs2]
 generalize (w2.alloc (.cells #[Value.int .u8 ((224 + (p : Int) / 4096) % 256),Value.int .u8 (128 + (p : Int) / 64 % 64),Value.int .u8 (128 + (p : Int) % 64)] 5)) = w3 at HB3 hs3 ⊢
 have hb:=Blk.new w3 5 #[Value.int .u8 (240 + (p : Int) / 262144),Value.int .u8 (128 + (p : Int) / 4096 % 64),Value.int .u8 (128 + (p : Int) / 64 % 64),Value.int .u8 (128 + (p : Int) % 64)]
 rw [hs3] at hb
 have hcv:=conv_blk _ (w.heap.size + 1 + 1 + 1) w.heap.size 4 u _ hb HV.out (by omega) HN.out (by decide)
 have HB:=Lib.hid (HAL.out w3 HB3.out (.cells #[Value.int .u8 (240 + (p : Int) / 262144),Value.int .u8 (128 + (p : Int) / 4096 % 64),Value.int .u8 (128 + (p : Int) / 64 % 64),Value.int .u8 (128 + (p : Int) % 64)] 5))
 clear hb HV HAL H0 HB0 hs0 HB1 hs1 HB2 hs2 HB3 hs3
 go_wp2_with fail
 go_ret
 exact ⟨rfl,HB.out⟩
end Go.Proofs.YteidgdpaolieaaaGreatDoor
