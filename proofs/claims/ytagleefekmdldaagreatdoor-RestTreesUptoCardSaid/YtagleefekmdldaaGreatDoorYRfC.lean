/- Contract of the reference's row: a code point's bytes. -/
import Derived.Test.YtagleefekmdldaaGreatDoorYRsB
import Derived.Test.YtagleefekmdldaaGreatDoorYMkHtOkF
import Derived.Test.YtagleefekmdldaaGreatDoorYUrlD
set_option linter.unusedVariables false
set_option linter.unusedSimpArgs false
set_option maxHeartbeats 4000000
set_option maxRecDepth 100000
namespace Go.Proofs.YtagleefekmdldaaGreatDoor
open Go.Proofs.Tryz Go.RowKit
theorem q00 (W:World) (g base n:Nat) (bs:List UInt8) (vs:Array Value) (hB:Blk W g 5 vs) (hv:(bv bs).toArray=vs) (hg:base≤g) (hn:bs.length=n) (hm:n≤9223372036854775807) :
  (convert 85 9 (.slice (some ⟨g,0,none⟩) n n)).run prog W=.ok (.string (st bs)) W:=by
 rw[← hv] at hB;exact z0z (P:=prog) W 85 9 5 underlying85 underlying5 underlying9 (base:=base) (n:=n) (v:=.slice (some ⟨g,0,none⟩) n n) bs
  ⟨by rw[q5j,hn,Nat.mul_one],.inr ⟨g,n,(bv bs).toArray,rfl,hg,hB,Lr,hm,by rw[Nat.mul_one];show (bv bs).length=n;rw[q5j,hn],by rw[Nat.mul_one];show (bv bs).take n=bv bs;rw[List.take_of_length_le (by rw[q5j,hn];exact Lr)]⟩⟩
theorem z2c (n:Nat) (h:n < 256):(Value.int .u8 ((UInt8.ofNat n).toNat:Int))=.int .u8 (n:Int):=by
 have e:(UInt8.ofNat n).toNat=n:=by simp;omega
 rw[e]
theorem rf_row (p:Nat) (w:World) (hp:Mk.scalar p=true) :
  Calls prog 85 #[.int .i64 p] w fun e w'=>e=.returned (.string (st (Mk.utf8 p)))∧Below w.heap.size w w':=by
 have hpl:(p:Int)≤1114111:=by
  rw[z5w] at hp;rw[Bool.and_eq_true,Bool.and_eq_true] at hp;have:=of_decide_eq_true hp.1.2;omega
 have hal:=fun (W:World) (hW:Below w.heap.size w W) o=>hW.trans (((Below.refl W.heap.size W).alloc (Lr) o).mono hW.size)
 have HAL:=Ld hal;have H0:=Ld (Below.refl w.heap.size w);obtain⟨u,hu⟩:∃ u,Mk.utf8 p=u:=⟨_,rfl⟩;rw[hu];clear hal hp
 by_cases h1:p < 128
 ·have h1i:¬ (128:Int)≤p:=by omega
  have h2i:¬ (2048:Int)≤p:=by omega
  have h3i:¬ (65536:Int)≤p:=by omega
  have HN:Hid (u.length=1):=by show _=_;rw[← hu];unfold Mk.utf8;rw[if_pos h1];rfl
  have HV:Hid ((bv u).toArray = #[Value.int .u8 ((p:Int))]):=by
   show _=_;rw[← hu];unfold Mk.utf8;rw[if_pos h1];simp only [bv,List.map];rw[z2c _ (by omega)]
  clear hu;go_enter func85,ntmps85;go_upto_region 8 with fail;have HB0:=H0;have hs0:w.heap.size=w.heap.size:=rfl;have hb:=Blk.new w 5 #[Value.int .u8 ((p:Int))];have hcv:=q00 _ (w.heap.size) w.heap.size 1 u _ hb HV.out (by omega) HN.out (by decide);have HB:=Ld (HAL.out w HB0.out (.cells #[Value.int .u8 ((p:Int))] 5));clear hb HV HAL H0 HB0 hs0;go_wp2_with fail;go_ret;exact⟨rfl,HB.out⟩
 by_cases h2:p < 2048
 ·have h1i:(128:Int)≤p:=by omega
  have h2i:¬ (2048:Int)≤p:=by omega
  have h3i:¬ (65536:Int)≤p:=by omega
  have HN:Hid (u.length=2):=by show _=_;rw[← hu];unfold Mk.utf8;rw[if_neg h1,if_pos h2];rfl
  have HV:Hid ((bv u).toArray = #[Value.int .u8 (192 + (p:Int) / 64),Value.int .u8 (128 + (p:Int) % 64)]):=by
   show _=_;rw[← hu];unfold Mk.utf8;rw[if_neg h1,if_pos h2];simp only [bv,List.map];rw[z2c _ (by omega),z2c _ (by omega)];simp
  clear hu;go_enter func85,ntmps85;go_upto_region 8 with fail;have HB0:=H0;have hs0:w.heap.size=w.heap.size:=rfl;have HB1:=Ld (HAL.out w HB0.out (.cells #[Value.int .u8 ((p:Int) % 256)] 5));have hs1:(w.alloc (.cells #[Value.int .u8 ((p:Int) % 256)] 5)).heap.size=w.heap.size + 1:=by simp
  generalize (w.alloc (.cells #[Value.int .u8 ((p:Int) % 256)] 5))=w1 at HB1 hs1 ⊢;have hb:=Blk.new w1 5 #[Value.int .u8 (192 + (p:Int) / 64),Value.int .u8 (128 + (p:Int) % 64)];rw[hs1] at hb;have hcv:=q00 _ (w.heap.size + 1) w.heap.size 2 u _ hb HV.out (by omega) HN.out (by decide);have HB:=Ld (HAL.out w1 HB1.out (.cells #[Value.int .u8 (192 + (p:Int) / 64),Value.int .u8 (128 + (p:Int) % 64)] 5));clear hb HV HAL H0 HB0 hs0 HB1 hs1;go_wp2_with fail;go_ret;exact⟨rfl,HB.out⟩
 by_cases h3:p < 65536
 ·have h1i:(128:Int)≤p:=by omega
  have h2i:(2048:Int)≤p:=by omega
  have h3i:¬ (65536:Int)≤p:=by omega
  have HN:Hid (u.length=3):=by show _=_;rw[← hu];unfold Mk.utf8;rw[if_neg h1,if_neg h2,if_pos h3];rfl
  have HV:Hid ((bv u).toArray = #[Value.int .u8 (224 + (p:Int) / 4096),Value.int .u8 (128 + (p:Int) / 64 % 64),Value.int .u8 (128 + (p:Int) % 64)]):=by
   show _=_;rw[← hu];unfold Mk.utf8;rw[if_neg h1,if_neg h2,if_pos h3];simp only [bv,List.map];rw[z2c _ (by omega),z2c _ (by omega),z2c _ (by omega)];simp
  clear hu;go_enter func85,ntmps85;go_upto_region 8 with fail;have HB0:=H0;have hs0:w.heap.size=w.heap.size:=rfl;have HB1:=Ld (HAL.out w HB0.out (.cells #[Value.int .u8 ((p:Int) % 256)] 5));have hs1:(w.alloc (.cells #[Value.int .u8 ((p:Int) % 256)] 5)).heap.size=w.heap.size + 1:=by simp
  generalize (w.alloc (.cells #[Value.int .u8 ((p:Int) % 256)] 5))=w1 at HB1 hs1 ⊢;have HB2:=Ld (HAL.out w1 HB1.out (.cells #[Value.int .u8 ((192 + (p:Int) / 64) % 256),Value.int .u8 (128 + (p:Int) % 64)] 5));have hs2:(w1.alloc (.cells #[Value.int .u8 ((192 + (p:Int) / 64) % 256),Value.int .u8 (128 + (p:Int) % 64)] 5)).heap.size=w.heap.size + 1 + 1:=by simp[hs1]
  generalize (w1.alloc (.cells #[Value.int .u8 ((192 + (p:Int) / 64) % 256),Value.int .u8 (128 + (p:Int) % 64)] 5))=w2 at HB2 hs2 ⊢;have hb:=Blk.new w2 5 #[Value.int .u8 (224 + (p:Int) / 4096),Value.int .u8 (128 + (p:Int) / 64 % 64),Value.int .u8 (128 + (p:Int) % 64)];rw[hs2] at hb;have hcv:=q00 _ (w.heap.size + 1 + 1) w.heap.size 3 u _ hb HV.out (by omega) HN.out (by decide);have HB:=Ld (HAL.out w2 HB2.out (.cells #[Value.int .u8 (224 + (p:Int) / 4096),Value.int .u8 (128 + (p:Int) / 64 % 64),Value.int .u8 (128 + (p:Int) % 64)] 5));clear hb HV HAL H0 HB0 hs0 HB1 hs1 HB2 hs2;go_wp2_with fail;go_ret;exact⟨rfl,HB.out⟩
 have h1i:(128:Int)≤p:=by omega
 have h2i:(2048:Int)≤p:=by omega
 have h3i:(65536:Int)≤p:=by omega
 have HN:Hid (u.length=4):=by show _=_;rw[← hu];unfold Mk.utf8;rw[if_neg h1,if_neg h2,if_neg h3];rfl
 have HV:Hid ((bv u).toArray = #[Value.int .u8 (240 + (p:Int) / 262144),Value.int .u8 (128 + (p:Int) / 4096 % 64),Value.int .u8 (128 + (p:Int) / 64 % 64),Value.int .u8 (128 + (p:Int) % 64)]):=by
  show _=_;rw[← hu];unfold Mk.utf8;rw[if_neg h1,if_neg h2,if_neg h3];simp only [bv,List.map];rw[z2c _ (by omega),z2c _ (by omega),z2c _ (by omega),z2c _ (by omega)];simp
 clear hu;go_enter func85,ntmps85;go_upto_region 8 with fail;have HB0:=H0;have hs0:w.heap.size=w.heap.size:=rfl;have HB1:=Ld (HAL.out w HB0.out (.cells #[Value.int .u8 ((p:Int) % 256)] 5));have hs1:(w.alloc (.cells #[Value.int .u8 ((p:Int) % 256)] 5)).heap.size=w.heap.size + 1:=by simp
 generalize (w.alloc (.cells #[Value.int .u8 ((p:Int) % 256)] 5))=w1 at HB1 hs1 ⊢;have HB2:=Ld (HAL.out w1 HB1.out (.cells #[Value.int .u8 ((192 + (p:Int) / 64) % 256),Value.int .u8 (128 + (p:Int) % 64)] 5));have hs2:(w1.alloc (.cells #[Value.int .u8 ((192 + (p:Int) / 64) % 256),Value.int .u8 (128 + (p:Int) % 64)] 5)).heap.size=w.heap.size + 1 + 1:=by simp[hs1]
 generalize (w1.alloc (.cells #[Value.int .u8 ((192 + (p:Int) / 64) % 256),Value.int .u8 (128 + (p:Int) % 64)] 5))=w2 at HB2 hs2 ⊢;have HB3:=Ld (HAL.out w2 HB2.out (.cells #[Value.int .u8 ((224 + (p:Int) / 4096) % 256),Value.int .u8 (128 + (p:Int) / 64 % 64),Value.int .u8 (128 + (p:Int) % 64)] 5));have hs3:(w2.alloc (.cells #[Value.int .u8 ((224 + (p:Int) / 4096) % 256),Value.int .u8 (128 + (p:Int) / 64 % 64),Value.int .u8 (128 + (p:Int) % 64)] 5)).heap.size=w.heap.size + 1 + 1 + 1:=by simp[hs2]
 generalize (w2.alloc (.cells #[Value.int .u8 ((224 + (p:Int) / 4096) % 256),Value.int .u8 (128 + (p:Int) / 64 % 64),Value.int .u8 (128 + (p:Int) % 64)] 5))=w3 at HB3 hs3 ⊢;have hb:=Blk.new w3 5 #[Value.int .u8 (240 + (p:Int) / 262144),Value.int .u8 (128 + (p:Int) / 4096 % 64),Value.int .u8 (128 + (p:Int) / 64 % 64),Value.int .u8 (128 + (p:Int) % 64)];rw[hs3] at hb;have hcv:=q00 _ (w.heap.size + 1 + 1 + 1) w.heap.size 4 u _ hb HV.out (by omega) HN.out (by decide);have HB:=Ld (HAL.out w3 HB3.out (.cells #[Value.int .u8 (240 + (p:Int) / 262144),Value.int .u8 (128 + (p:Int) / 4096 % 64),Value.int .u8 (128 + (p:Int) / 64 % 64),Value.int .u8 (128 + (p:Int) % 64)] 5));clear hb HV HAL H0 HB0 hs0 HB1 hs1 HB2 hs2 HB3 hs3;go_wp2_with fail;go_ret;exact⟨rfl,HB.out⟩
end Go.Proofs.YtagleefekmdldaaGreatDoor
