/- Contracts of strconv.ParseUint where the program calls it: one sign, or a few digits, of base 10 or 16. -/
import Derived.Test.YtagleefekmdldaaGreatDoorYUrlPlain
import Derived.Test.YtagleefekmdldaaGreatDoorProg
import Derived.Test.YtagleefekmdldaaGreatDoorYShelf
import Derived.Test.YtagleefekmdldaaGreatDoorYKit
import Derived.Lib.ConvBytes
set_option linter.unusedVariables false
set_option linter.unusedSimpArgs false
set_option maxHeartbeats 4000000
set_option maxRecDepth 100000
namespace Go.Proofs.YtagleefekmdldaaGreatDoor
open Go.Proofs.Tryz Go.RowKit

theorem z2f (b:Nat) (l:List UInt8) (c:UInt8):Mk.value b (l++[c])=Mk.value b l * b + Mk.z1i c.toNat:=by simp[Mk.value,List.foldl_append]
theorem val_grow (b:Nat) (hb:1≤b) (m:List UInt8):∀ l,Mk.value b l≤Mk.value b (l++m):=by
 induction m with
 | nil=>intro l;simp
 | cons c t ih =>
  intro l;have h:=ih (l++[c]);rw[z2f,List.append_assoc] at h;have h2:Mk.value b l≤Mk.value b l * b:=Nat.le_mul_of_pos_right _ hb;exact Nat.le_trans (by omega) h
theorem q0b (b:Nat) (hb:1≤b) (l:List UInt8) (k:Nat):Mk.value b (l.take k)≤Mk.value b l:=by
 have h:=val_grow b hb (l.drop k) (l.take k)
 rwa [List.take_append_drop] at h
theorem q38 (c:UInt8):65≤c.toNat∧c.toNat≤90→bits .or .u8 (c.toNat:Int) 32=(c.toNat:Int) + 32:=Mg.z0h (fun c=>65≤c.toNat∧c.toNat≤90→bits .or .u8 (c.toNat:Int) 32=(c.toNat:Int) + 32) (by decide +kernel) c
theorem q36 (c:UInt8):97≤c.toNat∧c.toNat≤122→bits .or .u8 (c.toNat:Int) 32=(c.toNat:Int):=Mg.z0h (fun c=>97≤c.toNat∧c.toNat≤122→bits .or .u8 (c.toNat:Int) 32=(c.toNat:Int)) (by decide +kernel) c
theorem low_no (c:UInt8):¬ (65≤c.toNat∧c.toNat≤90)→¬ (97≤c.toNat∧c.toNat≤122)→(bits .or .u8 (c.toNat:Int) 32 < 97∨122 < bits .or .u8 (c.toNat:Int) 32):=Mg.z0h (fun c=>¬ (65≤c.toNat∧c.toNat≤90)→¬ (97≤c.toNat∧c.toNat≤122)→(bits .or .u8 (c.toNat:Int) 32 < 97∨122 < bits .or .u8 (c.toNat:Int) 32)) (by decide +kernel) c
theorem z7p (b:Nat) (hb:b≤16) (c:UInt8) (h:Mk.Y4 b c=true):(48≤c.toNat∧c.toNat≤57∧Mk.z1i c.toNat=c.toNat - 48)∨(97≤c.toNat∧c.toNat≤102∧Mk.z1i c.toNat=c.toNat - 87)∨(65≤c.toNat∧c.toNat≤70∧Mk.z1i c.toNat=c.toNat - 55):=by
 unfold Mk.Y4 at h;have h1:Mk.z1i c.toNat < b:=of_decide_eq_true h;unfold Mk.z1i at h1 ⊢
 split at h1
 ·rename_i e;rw[if_pos e];exact .inl ⟨e.1,e.2,rfl⟩
 ·rename_i e
  rw[if_neg e]
  split at h1
  ·rename_i e2;rw[if_pos e2];exact .inr (.inl ⟨e2.1,by omega,rfl⟩)
  ·rename_i e2
   rw[if_neg e2]
   split at h1
   ·rename_i e3;rw[if_pos e3];exact .inr (.inr ⟨e3.1,by omega,rfl⟩)
   ·omega
theorem q2r (b:Nat) (c:UInt8) (h:Mk.Y4 b c=true):Mk.z1i c.toNat < b:=of_decide_eq_true h
theorem dig_no (b:Nat) (h10:10≤b) (hb:b≤16) (c:UInt8) (h:Mk.Y4 b c=false):(97≤c.toNat∧c.toNat≤122∧b≤c.toNat - 87)∨(65≤c.toNat∧c.toNat≤90∧b≤c.toNat - 55)∨(¬ (48≤c.toNat∧c.toNat≤57)∧¬ (97≤c.toNat∧c.toNat≤122)∧¬ (65≤c.toNat∧c.toNat≤90)):=by
 unfold Mk.Y4 at h;have h1:¬ Mk.z1i c.toNat < b:=of_decide_eq_false h;unfold Mk.z1i at h1
 split at h1
 ·omega
 ·rename_i e1
  split at h1
  ·rename_i e2;exact .inl ⟨e2.1,e2.2,by omega⟩
  ·rename_i e2
   split at h1
   ·rename_i e3;exact .inr (.inl ⟨e3.1,e3.2,by omega⟩)
   ·rename_i e3;exact .inr (.inr ⟨e1,e2,e3⟩)

theorem j2c (l:List UInt8) (h0:l ≠ []) (hl:l.length≤7) (hd:∀ c ∈ l,Mk.Y4 10 c=true) (hv:Mk.value 10 l≤255) (w:World) :
  Calls prog 179 #[.string (st l),.int .i64 10,.int .i64 8] w fun e w'=>e=.returned (.tuple #[.int .u64 (Mk.value 10 l:Nat),.nilIface])∧Below w.heap.size w w':=by
 have hcv:=Lib.run_convert_string_bytes (P:=prog) w 9 85 5 (st l) (u:=.string) underlying9 underlying85 underlying5;have hcl:=fun j hj=>Lib.bytesWorld_cell w 5 (st l) j hj
 have hbw:Below w.heap.size w (Lib.bytesWorld w 5 (st l)):=⟨rfl,rfl,rfl,by rw[Lib.bytesWorld_size];omega,fun k hk=>Lib.bytesWorld_at_old w _ (st l) k hk⟩;generalize Lib.bytesWorld w 5 (st l)=wv at hcv hcl hbw;have HCL:=Ld hcl;have HV:=Ld hv;have HD:=Ld hd;have hemp:(st l).toList.isEmpty=false:=by
  rw[show (st l).toList=l from Lib.toList_data _]
  cases l with
  | nil=>exact absurd rfl h0
  | cons _ _=>rfl
 have hz:(st l).size≤7:=hl;clear hcl hv hd h0;go_enter func179,ntmps179;go_wp2_with fail
 go_loop [12,13,101] (fun vu vn vi=>∃ (k:Nat) (a:Int),k≤(st l).size∧vu=.bool false∧vn=.int .u64 a∧vi=.int .i64 k∧0≤a∧a≤255∧Hid (a=(Mk.value 10 (l.take k):Nat))) (fun _ _ vi=>(st l).size - (intOf vi).toNat)
 case atStart=>exact⟨0,0,Nat.zero_le _,rfl,rfl,rfl,by omega,by omega,rfl⟩
 case round =>
  obtain⟨k,a,hk,rfl,rfl,rfl,ha0,ha1,hx⟩:=hrel
  by_cases hlt:k < (st l).size
  ·have hc:wv.cell? ⟨w.heap.size,k,none⟩=some (.int .u8 ((st l)[k].toNat:Int)):=by
    rw[HCL.out k hlt];have:(st l).data.toList.getD k 0=(st l)[k]:=by rw[List.getD_eq_getElem?_getD,Lib.data_getElem? (st l) k hlt];rfl
    rw[this]
   have hsn:l.take (k + 1)=l.take k++[(st l)[k]]:=z5p (st l) k hlt;have hdg:=HD.out (st l)[k] (z6a (st l) k hlt);have hle:=q0b 10 (by omega) l (k + 1);have hv2:=HV.out;rw[hsn,z2f] at hle;have hxx:=hx.out;have hdl:=q2r 10 _ hdg;have hdc:=z7p 10 (by omega) _ hdg;have hlo:=q36 (st l)[k];have hup:=q38 (st l)[k];obtain⟨d,hde⟩:∃ d:Nat,Mk.z1i (st l)[k].toNat=d:=⟨_,rfl⟩;rw[hde] at hle hdl hdc;obtain⟨v,hve⟩:∃ v:Nat,Mk.value 10 (l.take k)=v:=⟨_,rfl⟩;rw[hve] at hle hxx;have hnew:a * 10 + d≤255:=by omega
   have HN:Hid (a * 10 + d=(Mk.value 10 (l.take (k + 1)):Nat)):=by show _=_;rw[hsn,z2f,hde,hve];omega
   clear hsn hdg hle hv2 hxx hde hve hx;have hb:((st l)[k].toNat:Int)≤255:=by have:=(st l)[k].toNat_lt;omega
   have h95:(((st l)[k].toNat:Int) == 95)=false:=by rw[beq_eq_false_iff_ne];rcases hdc with h | h | h <;> omega
   obtain⟨x,hxe⟩:∃ x:Int,((st l)[k].toNat:Int)=x:=⟨_,rfl⟩;have hlow:=fun W=>Tryz.internal_strconv_lower x W
   rw[hxe] at hb h95 hc hlo hup
   rcases hdc with ⟨c1,c2,c3⟩ | ⟨c1,c2,c3⟩ | ⟨c1,c2,c3⟩
   ·have e3:x - 48=d:=by omega
    have E3:=Ld e3;have e4:x - 48 < 10:=by omega
    have e5:a * 10 + (x - 48)≤255:=by omega
    have e6:48≤x:=by omega
    have e7:x≤57:=by omega
    clear e3 hlo hup c1 c2 c3 hxe hlow hdl hnew;go_wp2_with fail
    go_round
    case rel=>exact⟨k + 1,a * 10 + (x - 48),by omega,rfl,rfl,by go_num,by omega,by omega,by show _=_;rw[← HN.out,E3.out]⟩
    case measure=>simp[intOf];omega
   ·exfalso;omega
   ·exfalso;omega
  ·have hd0:decide (k < (st l).size)=false:=by simpa using hlt
   have hfin:(Mk.value 10 l:Int)=a:=by rw[hx.out,List.take_of_length_le (by rw[← y9 l];omega)]
   have HF:=Ld hfin;clear hfin;go_wp2_with fail;go_ret2;exact⟨by rw[HF.out];rfl,hbw⟩

theorem j2d (l:List UInt8) (h0:l ≠ []) (hl:l.length≤7) (hd:∀ c ∈ l,Mk.Y4 16 c=true) (hv:Mk.value 16 l≤255) (w:World) :
  Calls prog 179 #[.string (st l),.int .i64 16,.int .i64 8] w fun e w'=>e=.returned (.tuple #[.int .u64 (Mk.value 16 l:Nat),.nilIface])∧Below w.heap.size w w':=by
 have hcv:=Lib.run_convert_string_bytes (P:=prog) w 9 85 5 (st l) (u:=.string) underlying9 underlying85 underlying5;have hcl:=fun j hj=>Lib.bytesWorld_cell w 5 (st l) j hj
 have hbw:Below w.heap.size w (Lib.bytesWorld w 5 (st l)):=⟨rfl,rfl,rfl,by rw[Lib.bytesWorld_size];omega,fun k hk=>Lib.bytesWorld_at_old w _ (st l) k hk⟩;generalize Lib.bytesWorld w 5 (st l)=wv at hcv hcl hbw;have HCL:=Ld hcl;have HV:=Ld hv;have HD:=Ld hd;have hemp:(st l).toList.isEmpty=false:=by
  rw[show (st l).toList=l from Lib.toList_data _]
  cases l with
  | nil=>exact absurd rfl h0
  | cons _ _=>rfl
 have hz:(st l).size≤7:=hl;clear hcl hv hd h0;go_enter func179,ntmps179;go_wp2_with fail
 go_loop [12,13,101] (fun vu vn vi=>∃ (k:Nat) (a:Int),k≤(st l).size∧vu=.bool false∧vn=.int .u64 a∧vi=.int .i64 k∧0≤a∧a≤255∧Hid (a=(Mk.value 16 (l.take k):Nat))) (fun _ _ vi=>(st l).size - (intOf vi).toNat)
 case atStart=>exact⟨0,0,Nat.zero_le _,rfl,rfl,rfl,by omega,by omega,rfl⟩
 case round =>
  obtain⟨k,a,hk,rfl,rfl,rfl,ha0,ha1,hx⟩:=hrel
  by_cases hlt:k < (st l).size
  ·have hc:wv.cell? ⟨w.heap.size,k,none⟩=some (.int .u8 ((st l)[k].toNat:Int)):=by
    rw[HCL.out k hlt];have:(st l).data.toList.getD k 0=(st l)[k]:=by rw[List.getD_eq_getElem?_getD,Lib.data_getElem? (st l) k hlt];rfl
    rw[this]
   have hsn:l.take (k + 1)=l.take k++[(st l)[k]]:=z5p (st l) k hlt;have hdg:=HD.out (st l)[k] (z6a (st l) k hlt);have hle:=q0b 16 (by omega) l (k + 1);have hv2:=HV.out;rw[hsn,z2f] at hle;have hxx:=hx.out;have hdl:=q2r 16 _ hdg;have hdc:=z7p 16 (by omega) _ hdg;have hlo:=q36 (st l)[k];have hup:=q38 (st l)[k];obtain⟨d,hde⟩:∃ d:Nat,Mk.z1i (st l)[k].toNat=d:=⟨_,rfl⟩;rw[hde] at hle hdl hdc;obtain⟨v,hve⟩:∃ v:Nat,Mk.value 16 (l.take k)=v:=⟨_,rfl⟩;rw[hve] at hle hxx;have hnew:a * 16 + d≤255:=by omega
   have HN:Hid (a * 16 + d=(Mk.value 16 (l.take (k + 1)):Nat)):=by show _=_;rw[hsn,z2f,hde,hve];omega
   clear hsn hdg hle hv2 hxx hde hve hx;have hb:((st l)[k].toNat:Int)≤255:=by have:=(st l)[k].toNat_lt;omega
   have h95:(((st l)[k].toNat:Int) == 95)=false:=by rw[beq_eq_false_iff_ne];rcases hdc with h | h | h <;> omega
   obtain⟨x,hxe⟩:∃ x:Int,((st l)[k].toNat:Int)=x:=⟨_,rfl⟩;have hlow:=fun W=>Tryz.internal_strconv_lower x W
   rw[hxe] at hb h95 hc hlo hup
   rcases hdc with ⟨c1,c2,c3⟩ | ⟨c1,c2,c3⟩ | ⟨c1,c2,c3⟩
   ·have e3:x - 48=d:=by omega
    have E3:=Ld e3;have e4:x - 48 < 16:=by omega
    have e5:a * 16 + (x - 48)≤255:=by omega
    have e6:48≤x:=by omega
    have e7:x≤57:=by omega
    clear e3 hlo hup c1 c2 c3 hxe hlow hdl hnew;go_wp2_with fail
    go_round
    case rel=>exact⟨k + 1,a * 16 + (x - 48),by omega,rfl,rfl,by go_num,by omega,by omega,by show _=_;rw[← HN.out,E3.out]⟩
    case measure=>simp[intOf];omega
   ·have e3:x - 97 + 10=d:=by omega
    have E3:=Ld e3;have e4:x - 97 + 10 < 16:=by omega
    have e5:a * 16 + (x - 97 + 10)≤255:=by omega
    have e6:97≤x:=by omega
    have e7:x≤102:=by omega
    rw[hlo ⟨by omega,by omega⟩] at hlow;have HL:=Ld hlow;clear e3 hlo hup c1 c2 c3 hxe hlow hdl hnew;go_wp2_with (go_at_call 191;refine(HL.out _).mono ?_;rintro e w' ⟨rfl,rfl⟩)
    go_round
    case rel=>exact⟨k + 1,a * 16 + (x - 97 + 10),by omega,rfl,rfl,by go_num,by omega,by omega,by show _=_;rw[← HN.out,E3.out]⟩
    case measure=>simp[intOf];omega
   ·have e3:x + 32 - 97 + 10=d:=by omega
    have E3:=Ld e3;have e4:x + 32 - 97 + 10 < 16:=by omega
    have e5:a * 16 + (x + 32 - 97 + 10)≤255:=by omega
    have e6:65≤x:=by omega
    have e7:x≤70:=by omega
    rw[hup ⟨by omega,by omega⟩] at hlow;have HL:=Ld hlow;clear e3 hlo hup c1 c2 c3 hxe hlow hdl hnew;go_wp2_with (go_at_call 191;refine(HL.out _).mono ?_;rintro e w' ⟨rfl,rfl⟩)
    go_round
    case rel=>exact⟨k + 1,a * 16 + (x + 32 - 97 + 10),by omega,rfl,rfl,by go_num,by omega,by omega,by show _=_;rw[← HN.out,E3.out]⟩
    case measure=>simp[intOf];omega
  ·have hd0:decide (k < (st l).size)=false:=by simpa using hlt
   have hfin:(Mk.value 16 l:Int)=a:=by rw[hx.out,List.take_of_length_le (by rw[← y9 l];omega)]
   have HF:=Ld hfin;clear hfin;go_wp2_with fail;go_ret2;exact⟨by rw[HF.out];rfl,hbw⟩

theorem q8b (l:List UInt8) (h0:l ≠ []) (hl:l.length≤7) (hd:∀ c ∈ l,Mk.Y4 10 c=true) (hv:Mk.value 10 l≤4294967295) (w:World) :
  Calls prog 179 #[.string (st l),.int .i64 10,.int .i64 32] w fun e w'=>e=.returned (.tuple #[.int .u64 (Mk.value 10 l:Nat),.nilIface])∧Below w.heap.size w w':=by
 have hcv:=Lib.run_convert_string_bytes (P:=prog) w 9 85 5 (st l) (u:=.string) underlying9 underlying85 underlying5;have hcl:=fun j hj=>Lib.bytesWorld_cell w 5 (st l) j hj
 have hbw:Below w.heap.size w (Lib.bytesWorld w 5 (st l)):=⟨rfl,rfl,rfl,by rw[Lib.bytesWorld_size];omega,fun k hk=>Lib.bytesWorld_at_old w _ (st l) k hk⟩;generalize Lib.bytesWorld w 5 (st l)=wv at hcv hcl hbw;have HCL:=Ld hcl;have HV:=Ld hv;have HD:=Ld hd;have hemp:(st l).toList.isEmpty=false:=by
  rw[show (st l).toList=l from Lib.toList_data _]
  cases l with
  | nil=>exact absurd rfl h0
  | cons _ _=>rfl
 have hz:(st l).size≤7:=hl;clear hcl hv hd h0;go_enter func179,ntmps179;go_wp2_with fail
 go_loop [12,13,101] (fun vu vn vi=>∃ (k:Nat) (a:Int),k≤(st l).size∧vu=.bool false∧vn=.int .u64 a∧vi=.int .i64 k∧0≤a∧a≤4294967295∧Hid (a=(Mk.value 10 (l.take k):Nat))) (fun _ _ vi=>(st l).size - (intOf vi).toNat)
 case atStart=>exact⟨0,0,Nat.zero_le _,rfl,rfl,rfl,by omega,by omega,rfl⟩
 case round =>
  obtain⟨k,a,hk,rfl,rfl,rfl,ha0,ha1,hx⟩:=hrel
  by_cases hlt:k < (st l).size
  ·have hc:wv.cell? ⟨w.heap.size,k,none⟩=some (.int .u8 ((st l)[k].toNat:Int)):=by
    rw[HCL.out k hlt];have:(st l).data.toList.getD k 0=(st l)[k]:=by rw[List.getD_eq_getElem?_getD,Lib.data_getElem? (st l) k hlt];rfl
    rw[this]
   have hsn:l.take (k + 1)=l.take k++[(st l)[k]]:=z5p (st l) k hlt;have hdg:=HD.out (st l)[k] (z6a (st l) k hlt);have hle:=q0b 10 (by omega) l (k + 1);have hv2:=HV.out;rw[hsn,z2f] at hle;have hxx:=hx.out;have hdl:=q2r 10 _ hdg;have hdc:=z7p 10 (by omega) _ hdg;have hlo:=q36 (st l)[k];have hup:=q38 (st l)[k];obtain⟨d,hde⟩:∃ d:Nat,Mk.z1i (st l)[k].toNat=d:=⟨_,rfl⟩;rw[hde] at hle hdl hdc;obtain⟨v,hve⟩:∃ v:Nat,Mk.value 10 (l.take k)=v:=⟨_,rfl⟩;rw[hve] at hle hxx;have hnew:a * 10 + d≤4294967295:=by omega
   have HN:Hid (a * 10 + d=(Mk.value 10 (l.take (k + 1)):Nat)):=by show _=_;rw[hsn,z2f,hde,hve];omega
   clear hsn hdg hle hv2 hxx hde hve hx;have hb:((st l)[k].toNat:Int)≤255:=by have:=(st l)[k].toNat_lt;omega
   have h95:(((st l)[k].toNat:Int) == 95)=false:=by rw[beq_eq_false_iff_ne];rcases hdc with h | h | h <;> omega
   obtain⟨x,hxe⟩:∃ x:Int,((st l)[k].toNat:Int)=x:=⟨_,rfl⟩;have hlow:=fun W=>Tryz.internal_strconv_lower x W
   rw[hxe] at hb h95 hc hlo hup
   rcases hdc with ⟨c1,c2,c3⟩ | ⟨c1,c2,c3⟩ | ⟨c1,c2,c3⟩
   ·have e3:x - 48=d:=by omega
    have E3:=Ld e3;have e4:x - 48 < 10:=by omega
    have e5:a * 10 + (x - 48)≤4294967295:=by omega
    have e6:48≤x:=by omega
    have e7:x≤57:=by omega
    clear e3 hlo hup c1 c2 c3 hxe hlow hdl hnew;go_wp2_with fail
    go_round
    case rel=>exact⟨k + 1,a * 10 + (x - 48),by omega,rfl,rfl,by go_num,by omega,by omega,by show _=_;rw[← HN.out,E3.out]⟩
    case measure=>simp[intOf];omega
   ·exfalso;omega
   ·exfalso;omega
  ·have hd0:decide (k < (st l).size)=false:=by simpa using hlt
   have hfin:(Mk.value 10 l:Int)=a:=by rw[hx.out,List.take_of_length_le (by rw[← y9 l];omega)]
   have HF:=Ld hfin;clear hfin;go_wp2_with fail;go_ret2;exact⟨by rw[HF.out];rfl,hbw⟩

theorem q8c (l:List UInt8) (h0:l ≠ []) (hl:l.length≤7) (hd:∀ c ∈ l,Mk.Y4 16 c=true) (hv:Mk.value 16 l≤4294967295) (w:World) :
  Calls prog 179 #[.string (st l),.int .i64 16,.int .i64 32] w fun e w'=>e=.returned (.tuple #[.int .u64 (Mk.value 16 l:Nat),.nilIface])∧Below w.heap.size w w':=by
 have hcv:=Lib.run_convert_string_bytes (P:=prog) w 9 85 5 (st l) (u:=.string) underlying9 underlying85 underlying5;have hcl:=fun j hj=>Lib.bytesWorld_cell w 5 (st l) j hj
 have hbw:Below w.heap.size w (Lib.bytesWorld w 5 (st l)):=⟨rfl,rfl,rfl,by rw[Lib.bytesWorld_size];omega,fun k hk=>Lib.bytesWorld_at_old w _ (st l) k hk⟩;generalize Lib.bytesWorld w 5 (st l)=wv at hcv hcl hbw;have HCL:=Ld hcl;have HV:=Ld hv;have HD:=Ld hd;have hemp:(st l).toList.isEmpty=false:=by
  rw[show (st l).toList=l from Lib.toList_data _]
  cases l with
  | nil=>exact absurd rfl h0
  | cons _ _=>rfl
 have hz:(st l).size≤7:=hl;clear hcl hv hd h0;go_enter func179,ntmps179;go_wp2_with fail
 go_loop [12,13,101] (fun vu vn vi=>∃ (k:Nat) (a:Int),k≤(st l).size∧vu=.bool false∧vn=.int .u64 a∧vi=.int .i64 k∧0≤a∧a≤4294967295∧Hid (a=(Mk.value 16 (l.take k):Nat))) (fun _ _ vi=>(st l).size - (intOf vi).toNat)
 case atStart=>exact⟨0,0,Nat.zero_le _,rfl,rfl,rfl,by omega,by omega,rfl⟩
 case round =>
  obtain⟨k,a,hk,rfl,rfl,rfl,ha0,ha1,hx⟩:=hrel
  by_cases hlt:k < (st l).size
  ·have hc:wv.cell? ⟨w.heap.size,k,none⟩=some (.int .u8 ((st l)[k].toNat:Int)):=by
    rw[HCL.out k hlt];have:(st l).data.toList.getD k 0=(st l)[k]:=by rw[List.getD_eq_getElem?_getD,Lib.data_getElem? (st l) k hlt];rfl
    rw[this]
   have hsn:l.take (k + 1)=l.take k++[(st l)[k]]:=z5p (st l) k hlt;have hdg:=HD.out (st l)[k] (z6a (st l) k hlt);have hle:=q0b 16 (by omega) l (k + 1);have hv2:=HV.out;rw[hsn,z2f] at hle;have hxx:=hx.out;have hdl:=q2r 16 _ hdg;have hdc:=z7p 16 (by omega) _ hdg;have hlo:=q36 (st l)[k];have hup:=q38 (st l)[k];obtain⟨d,hde⟩:∃ d:Nat,Mk.z1i (st l)[k].toNat=d:=⟨_,rfl⟩;rw[hde] at hle hdl hdc;obtain⟨v,hve⟩:∃ v:Nat,Mk.value 16 (l.take k)=v:=⟨_,rfl⟩;rw[hve] at hle hxx;have hnew:a * 16 + d≤4294967295:=by omega
   have HN:Hid (a * 16 + d=(Mk.value 16 (l.take (k + 1)):Nat)):=by show _=_;rw[hsn,z2f,hde,hve];omega
   clear hsn hdg hle hv2 hxx hde hve hx;have hb:((st l)[k].toNat:Int)≤255:=by have:=(st l)[k].toNat_lt;omega
   have h95:(((st l)[k].toNat:Int) == 95)=false:=by rw[beq_eq_false_iff_ne];rcases hdc with h | h | h <;> omega
   obtain⟨x,hxe⟩:∃ x:Int,((st l)[k].toNat:Int)=x:=⟨_,rfl⟩;have hlow:=fun W=>Tryz.internal_strconv_lower x W
   rw[hxe] at hb h95 hc hlo hup
   rcases hdc with ⟨c1,c2,c3⟩ | ⟨c1,c2,c3⟩ | ⟨c1,c2,c3⟩
   ·have e3:x - 48=d:=by omega
    have E3:=Ld e3;have e4:x - 48 < 16:=by omega
    have e5:a * 16 + (x - 48)≤4294967295:=by omega
    have e6:48≤x:=by omega
    have e7:x≤57:=by omega
    clear e3 hlo hup c1 c2 c3 hxe hlow hdl hnew;go_wp2_with fail
    go_round
    case rel=>exact⟨k + 1,a * 16 + (x - 48),by omega,rfl,rfl,by go_num,by omega,by omega,by show _=_;rw[← HN.out,E3.out]⟩
    case measure=>simp[intOf];omega
   ·have e3:x - 97 + 10=d:=by omega
    have E3:=Ld e3;have e4:x - 97 + 10 < 16:=by omega
    have e5:a * 16 + (x - 97 + 10)≤4294967295:=by omega
    have e6:97≤x:=by omega
    have e7:x≤102:=by omega
    rw[hlo ⟨by omega,by omega⟩] at hlow;have HL:=Ld hlow;clear e3 hlo hup c1 c2 c3 hxe hlow hdl hnew;go_wp2_with (go_at_call 191;refine(HL.out _).mono ?_;rintro e w' ⟨rfl,rfl⟩)
    go_round
    case rel=>exact⟨k + 1,a * 16 + (x - 97 + 10),by omega,rfl,rfl,by go_num,by omega,by omega,by show _=_;rw[← HN.out,E3.out]⟩
    case measure=>simp[intOf];omega
   ·have e3:x + 32 - 97 + 10=d:=by omega
    have E3:=Ld e3;have e4:x + 32 - 97 + 10 < 16:=by omega
    have e5:a * 16 + (x + 32 - 97 + 10)≤4294967295:=by omega
    have e6:65≤x:=by omega
    have e7:x≤70:=by omega
    rw[hup ⟨by omega,by omega⟩] at hlow;have HL:=Ld hlow;clear e3 hlo hup c1 c2 c3 hxe hlow hdl hnew;go_wp2_with (go_at_call 191;refine(HL.out _).mono ?_;rintro e w' ⟨rfl,rfl⟩)
    go_round
    case rel=>exact⟨k + 1,a * 16 + (x + 32 - 97 + 10),by omega,rfl,rfl,by go_num,by omega,by omega,by show _=_;rw[← HN.out,E3.out]⟩
    case measure=>simp[intOf];omega
  ·have hd0:decide (k < (st l).size)=false:=by simpa using hlt
   have hfin:(Mk.value 16 l:Int)=a:=by rw[hx.out,List.take_of_length_le (by rw[← y9 l];omega)]
   have HF:=Ld hfin;clear hfin;go_wp2_with fail;go_ret2;exact⟨by rw[HF.out];rfl,hbw⟩

theorem j5t (c:UInt8) (h:Mk.Y4 10 c=false) (w:World) :
  Calls prog 179 #[.string (st [c]),.int .i64 10,.int .i64 8] w fun e w'=>e=.returned (.tuple #[.int .u64 0,.iface 218 (.int .i64 2)])∧Below w.heap.size w w':=by
 have hcv:=Lib.run_convert_string_bytes (P:=prog) w 9 85 5 (st [c]) (u:=.string) underlying9 underlying85 underlying5;have hcl:=Lib.bytesWorld_cell w 5 (st [c]) 0 (by rw[y9];exact Nat.one_pos);have hbw:Below w.heap.size w (Lib.bytesWorld w 5 (st [c])):=⟨rfl,rfl,rfl,by rw[Lib.bytesWorld_size];omega,fun k hk=>Lib.bytesWorld_at_old w _ (st [c]) k hk⟩;generalize Lib.bytesWorld w 5 (st [c])=wv at hcv hcl hbw;have hemp:(st [c]).toList.isEmpty=false:=by rw[show (st [c]).toList=[c] from Lib.toList_data _];rfl
 have hz:0 < (st [c]).size:=by rw[y9];exact Nat.one_pos
 have hdc:=dig_no 10 (by omega) (by omega) c h;have hlo:=q36 c;have hup:=q38 c;have hno:=low_no c;have hb:(c.toNat:Int)≤255:=by have:=c.toNat_lt;omega
 obtain⟨x,hxe⟩:∃ x:Int,(c.toNat:Int)=x:=⟨_,rfl⟩;have hcell:wv.cell? ⟨w.heap.size,0,none⟩=some (.int .u8 x):=by rw[← hxe];exact hcl
 have hlow:=fun W=>Tryz.internal_strconv_lower x W
 rw[hxe] at hb hlo hup hno;clear hcl h;go_enter func179,ntmps179;go_wp2_with fail
 go_loop [12,13,101] (fun vu vn vi=>vu=.bool false∧vn=.int .u64 0∧vi=.int .i64 0) (fun _ _ vi=>0)
 case atStart=>exact⟨rfl,rfl,rfl⟩
 case round =>
  obtain⟨rfl,rfl,rfl⟩:=hrel
  rcases hdc with ⟨c1,c2,c3⟩ | ⟨c1,c2,c3⟩ | ⟨c1,c2,c3⟩
  ·have e4:10≤x - 97 + 10:=by omega
   have e6:97≤x:=by omega
   have e7:x≤122:=by omega
   have h95:(x == 95)=false:=by rw[beq_eq_false_iff_ne];omega
   rw[hlo ⟨by omega,by omega⟩] at hlow;have HL:=Ld hlow;clear hlo hup hno c1 c2 c3 hxe hlow;go_wp2_with (go_at_call 191;refine(HL.out _).mono ?_;rintro e w' ⟨rfl,rfl⟩);go_ret2;exact⟨rfl,hbw⟩
  ·have e4:10≤x + 32 - 97 + 10:=by omega
   have e6:65≤x:=by omega
   have e7:x≤90:=by omega
   have h95:(x == 95)=false:=by rw[beq_eq_false_iff_ne];omega
   rw[hup ⟨by omega,by omega⟩] at hlow;have HL:=Ld hlow;clear hlo hup hno c1 c2 c3 hxe hlow;go_wp2_with (go_at_call 191;refine(HL.out _).mono ?_;rintro e w' ⟨rfl,rfl⟩);go_ret2;exact⟨rfl,hbw⟩
  ·have hn:=hno (by omega) (by omega)
   obtain⟨y,hy⟩:∃ y:Int,bits .or .u8 x 32=y:=⟨_,rfl⟩;rw[hy] at hn hlow;have HL:=Ld hlow;have hnd:¬ (48≤x∧x≤57):=by omega
   clear hlo hup hno c2 c3 hxe hlow hy
   by_cases h48:48≤x
   ·have h57:57 < x:=by omega
    clear c1 hnd
    cases h95:(x == 95)
    all_goals rcases hn with hn | hn
    all_goals
     go_wp2_with (go_at_call 191;refine(HL.out _).mono ?_;rintro e w' ⟨rfl,rfl⟩)
     all_goals
      go_ret2;exact⟨rfl,hbw⟩
   ·have h48':x < 48:=by omega
    have h95:(x == 95)=false:=by rw[beq_eq_false_iff_ne];omega
    clear c1 hnd h48
    rcases hn with hn | hn
    ·go_wp2_with (go_at_call 191;refine(HL.out _).mono ?_;rintro e w' ⟨rfl,rfl⟩)
     all_goals
      go_ret2;exact⟨rfl,hbw⟩
    ·go_wp2_with (go_at_call 191;refine(HL.out _).mono ?_;rintro e w' ⟨rfl,rfl⟩)
     all_goals
      go_ret2;exact⟨rfl,hbw⟩

theorem j5u (c:UInt8) (h:Mk.Y4 16 c=false) (w:World) :
  Calls prog 179 #[.string (st [c]),.int .i64 16,.int .i64 8] w fun e w'=>e=.returned (.tuple #[.int .u64 0,.iface 218 (.int .i64 2)])∧Below w.heap.size w w':=by
 have hcv:=Lib.run_convert_string_bytes (P:=prog) w 9 85 5 (st [c]) (u:=.string) underlying9 underlying85 underlying5;have hcl:=Lib.bytesWorld_cell w 5 (st [c]) 0 (by rw[y9];exact Nat.one_pos);have hbw:Below w.heap.size w (Lib.bytesWorld w 5 (st [c])):=⟨rfl,rfl,rfl,by rw[Lib.bytesWorld_size];omega,fun k hk=>Lib.bytesWorld_at_old w _ (st [c]) k hk⟩;generalize Lib.bytesWorld w 5 (st [c])=wv at hcv hcl hbw;have hemp:(st [c]).toList.isEmpty=false:=by rw[show (st [c]).toList=[c] from Lib.toList_data _];rfl
 have hz:0 < (st [c]).size:=by rw[y9];exact Nat.one_pos
 have hdc:=dig_no 16 (by omega) (by omega) c h;have hlo:=q36 c;have hup:=q38 c;have hno:=low_no c;have hb:(c.toNat:Int)≤255:=by have:=c.toNat_lt;omega
 obtain⟨x,hxe⟩:∃ x:Int,(c.toNat:Int)=x:=⟨_,rfl⟩;have hcell:wv.cell? ⟨w.heap.size,0,none⟩=some (.int .u8 x):=by rw[← hxe];exact hcl
 have hlow:=fun W=>Tryz.internal_strconv_lower x W
 rw[hxe] at hb hlo hup hno;clear hcl h;go_enter func179,ntmps179;go_wp2_with fail
 go_loop [12,13,101] (fun vu vn vi=>vu=.bool false∧vn=.int .u64 0∧vi=.int .i64 0) (fun _ _ vi=>0)
 case atStart=>exact⟨rfl,rfl,rfl⟩
 case round =>
  obtain⟨rfl,rfl,rfl⟩:=hrel
  rcases hdc with ⟨c1,c2,c3⟩ | ⟨c1,c2,c3⟩ | ⟨c1,c2,c3⟩
  ·have e4:16≤x - 97 + 10:=by omega
   have e6:97≤x:=by omega
   have e7:x≤122:=by omega
   have h95:(x == 95)=false:=by rw[beq_eq_false_iff_ne];omega
   rw[hlo ⟨by omega,by omega⟩] at hlow;have HL:=Ld hlow;clear hlo hup hno c1 c2 c3 hxe hlow;go_wp2_with (go_at_call 191;refine(HL.out _).mono ?_;rintro e w' ⟨rfl,rfl⟩);go_ret2;exact⟨rfl,hbw⟩
  ·have e4:16≤x + 32 - 97 + 10:=by omega
   have e6:65≤x:=by omega
   have e7:x≤90:=by omega
   have h95:(x == 95)=false:=by rw[beq_eq_false_iff_ne];omega
   rw[hup ⟨by omega,by omega⟩] at hlow;have HL:=Ld hlow;clear hlo hup hno c1 c2 c3 hxe hlow;go_wp2_with (go_at_call 191;refine(HL.out _).mono ?_;rintro e w' ⟨rfl,rfl⟩);go_ret2;exact⟨rfl,hbw⟩
  ·have hn:=hno (by omega) (by omega)
   obtain⟨y,hy⟩:∃ y:Int,bits .or .u8 x 32=y:=⟨_,rfl⟩;rw[hy] at hn hlow;have HL:=Ld hlow;have hnd:¬ (48≤x∧x≤57):=by omega
   clear hlo hup hno c2 c3 hxe hlow hy
   by_cases h48:48≤x
   ·have h57:57 < x:=by omega
    clear c1 hnd
    cases h95:(x == 95)
    all_goals rcases hn with hn | hn
    all_goals
     go_wp2_with (go_at_call 191;refine(HL.out _).mono ?_;rintro e w' ⟨rfl,rfl⟩)
     all_goals
      go_ret2;exact⟨rfl,hbw⟩
   ·have h48':x < 48:=by omega
    have h95:(x == 95)=false:=by rw[beq_eq_false_iff_ne];omega
    clear c1 hnd h48
    rcases hn with hn | hn
    ·go_wp2_with (go_at_call 191;refine(HL.out _).mono ?_;rintro e w' ⟨rfl,rfl⟩)
     all_goals
      go_ret2;exact⟨rfl,hbw⟩
    ·go_wp2_with (go_at_call 191;refine(HL.out _).mono ?_;rintro e w' ⟨rfl,rfl⟩)
     all_goals
      go_ret2;exact⟨rfl,hbw⟩

structure Gl (w:World):Prop where
 ml:∃ m:Int,w.cell? ⟨0,0,none⟩=some (.int .i64 m)
 es:∃ ev,w.cell? ⟨1,0,none⟩=some ev∧(ev=.nilIface∨∃ te pe,ev=.iface te pe)
theorem Gl.lt {w:World} (h:Gl w):1 < w.heap.size:=by
 obtain⟨ev,he,_⟩:=h.es;exact World.block_lt_of_cell? w _ he
theorem Gl.below {B:Nat} {w w':World} (h:Gl w) (hb:Below B w w') (hB:1 < B):Gl w':=by
 obtain⟨m,hm⟩:=h.ml;obtain⟨ev,he,hv⟩:=h.es;exact⟨⟨m,(hb.cell (p:=⟨0,0,none⟩) (by show 0 < B;omega)).trans hm⟩,ev,(hb.cell (p:=⟨1,0,none⟩) hB).trans he,hv⟩
theorem Gl.drew {w:World} (h:Gl w):Gl w.drew:=h.below ((Below.refl w.heap.size w).drew) h.lt
theorem Gl.drewN {w:World} (h:Gl w) (n:Nat):Gl (w.drewN n):=h.below (below_drewN (Below.refl w.heap.size w) n) h.lt
theorem Gl.alloc {w:World} (h:Gl w) (o:Obj):Gl (w.alloc o):=h.below ((Below.refl w.heap.size w).alloc (Lr) o) h.lt
theorem Gl.setCell {w:World} (h:Gl w) {p:Addr} (hp:1 < p.block) (u:Value):Gl (w.setCell p u):=h.below (B:=p.block) ((Below.refl _ w).setCell (Lr) u) hp

section
variable {b : Int} {l : List UInt8} {bits : Int} {v : Int}
theorem q9h (hin:∀ w:World,Calls prog 179 #[.string (st l),.int .i64 b,.int .i64 bits] w fun e w'=>e=.returned (.tuple #[.int .u64 v,.nilIface])∧Below w.heap.size w w') (w:World) :
  Calls prog 166 #[.string (st l),.int .i64 b,.int .i64 bits] w fun e w'=>e=.returned (.tuple #[.int .u64 v,.nilIface])∧Below w.heap.size w w':=by
 go_enter func166,ntmps166;go_wp2_with fail;refine(hin _).mono ?_;rintro e w1 ⟨rfl,hb⟩;go_wp2_with fail;go_ret2;exact⟨rfl,hb⟩
theorem j5v (hin:∀ w:World,Calls prog 179 #[.string (st l),.int .i64 b,.int .i64 bits] w fun e w'=>e=.returned (.tuple #[.int .u64 0,.iface 218 (.int .i64 2)])∧Below w.heap.size w w') (hl:(st l).size≤281474976710656) (w:World) (hg:Gl w) :
  Calls prog 166 #[.string (st l),.int .i64 b,.int .i64 bits] w fun e w'=>∃ N,e=.returned (.tuple #[.int .u64 0,.iface 219 (.pointer (some ⟨N,0,none⟩))])∧Below w.heap.size w w':=by
 go_enter func166,ntmps166;go_wp2_with fail;refine(hin _).mono ?_;rintro e w1 ⟨rfl,hb⟩;have hg1:=hg.below hb hg.lt;obtain⟨ev,hev,hv⟩:=hg1.es;have HE:=Ld hev;clear hev;go_wp2_with fail;refine(Tryz.strconv_toError_syntax _ _ _ _ ev _ hl HE.out hv).mono ?_;rintro e w2 ⟨N,rfl,_,_,hb2⟩;go_wp2_with fail;go_ret2;exact⟨N,rfl,hb.trans (hb2.mono hb.size)⟩
end
theorem one_yes (b:Nat) (hb:b=10∨b=16) (c:UInt8) (h:Mk.Y4 b c=true) (w:World) :
  Calls prog 166 #[.string (st [c]),.int .i64 b,.int .i64 8] w fun e w'=>e=.returned (.tuple #[.int .u64 (Mk.value b [c]:Nat),.nilIface])∧Below w.heap.size w w':=by
 have hv:Mk.value b [c]≤255:=by
  have h1:=q2r b c h;have h2:Mk.value b [c]=Mk.z1i c.toNat:=by simp[Mk.value]
  omega
 have hall:∀ x ∈ [c],Mk.Y4 b x=true:=by intro x hx;rw[List.mem_singleton] at hx;rw[hx];exact h
 rcases hb with rfl | rfl
 ·exact q9h (fun W=>j2c [c] (by simp) (by simp) hall hv W) w
 ·exact q9h (fun W=>j2d [c] (by simp) (by simp) hall hv W) w
theorem one_no (b:Nat) (hb:b=10∨b=16) (c:UInt8) (h:Mk.Y4 b c=false) (w:World) (hg:Gl w) :
  Calls prog 166 #[.string (st [c]),.int .i64 b,.int .i64 8] w fun e w'=>∃ N,e=.returned (.tuple #[.int .u64 0,.iface 219 (.pointer (some ⟨N,0,none⟩))])∧Below w.heap.size w w':=by
 rcases hb with rfl | rfl
 ·exact j5v (fun W=>j5t c h W) (by rw[y9];simp) w hg
 ·exact j5v (fun W=>j5u c h W) (by rw[y9];simp) w hg
theorem one_sign (s:ByteArray) (k:Nat) (h:k < s.size):s.extract k (k + 1)=st [s[k]]:=by
 rw[Z4,X6 s k h,Nat.add_sub_cancel_left];rfl

theorem q2x (s:ByteArray) (b:Nat) (hb:b=10∨b=16) (w:World) (hs:s.size≤2097152) (hg:Gl w) :
  Calls prog 165 #[.string s,.int .i64 b] w fun e w'=>e=.returned (.int .i64 ((s.data.toList.takeWhile (Mk.Y4 b)).length:Nat))∧Below w.heap.size w w':=by
 go_enter func165,ntmps165;go_wp2_with fail
 go_loopw [10] (fun i wr=>∃ k:Nat,k≤s.size∧i=.int .i64 k∧Hid ((s.data.toList.takeWhile (Mk.Y4 b)).length=k + ((s.data.toList.drop k).takeWhile (Mk.Y4 b)).length)∧Below w.heap.size w wr) (fun i _=>s.size - (intOf i).toNat)
 case atStart=>exact⟨0,Nat.zero_le _,rfl,by show _=_;simp,Below.refl _ _⟩
 case round =>
  obtain⟨k,hk,rfl,hr,hbl⟩:=hrel;have hgr:=hg.below hbl hg.lt
  by_cases hlt:k < s.size
  ·have hx:=one_sign s k hlt
   have hdr:=X6 s k hlt
   cases hd:Mk.Y4 b s[k] with
   | true =>
    have HY:=Ld (one_yes b hb s[k] hd);have HN:Hid ((s.data.toList.takeWhile (Mk.Y4 b)).length=(k + 1) + ((s.data.toList.drop (k + 1)).takeWhile (Mk.Y4 b)).length):=by
     show _=_;rw[hr.out,hdr,List.takeWhile_cons,if_pos hd,List.length_cons];omega
    clear hd hdr hr hgr;go_wp2_with fail;refine(HY.out _).mono ?_;rintro e w1 ⟨rfl,hb1⟩;have l1:=hbl.trans (hb1.mono hbl.size);clear hb1 hbl HY;go_wp2_with fail;go_roundw
    case rel=>exact⟨k + 1,by omega,by go_num,HN,l1⟩
    case measure=>simp[intOf];omega
   | false =>
    have HY:=Ld (fun W hG=>one_no b hb s[k] hd W hG);have HN:Hid ((s.data.toList.takeWhile (Mk.Y4 b)).length=k):=by
     show _=_;rw[hr.out,hdr,List.takeWhile_cons,if_neg (by simp[hd])];rfl
    clear hd hdr hr;have HG:=Ld hgr;clear hgr;go_wp2_with fail;refine(HY.out _ HG.out).mono ?_;rintro e w1 ⟨N,rfl,hb1⟩;have l1:=hbl.trans (hb1.mono hbl.size);clear hb1 hbl HY;go_wp2_with fail;go_ret;exact⟨by rw[HN.out];rfl,l1⟩
  ·have hd:decide (k < s.size)=false:=by simpa using hlt
   have HN:Hid ((s.data.toList.takeWhile (Mk.Y4 b)).length=s.size):=by
    show _=_;rw[hr.out,List.drop_of_length_le (by simp;omega)];simp;omega
   clear hr;go_wp2_with fail;go_ret;exact⟨by rw[HN.out];rfl,hbl⟩

theorem scalar_1 (p:Int) (k1:0 < p) (k2:p≤1114111) (k3:p < 55296) (w:World):Calls prog 148 #[.int .i64 p] w fun e w'=>e=.returned (.bool true)∧w=w':=by
 go_enter func148,ntmps148;go_wp2_with fail;go_ret;exact⟨rfl,rfl⟩
theorem scalar_2 (p:Int) (k1:0 < p) (k2:p≤1114111) (k3:55296≤p) (k4:57343 < p) (w:World):Calls prog 148 #[.int .i64 p] w fun e w'=>e=.returned (.bool true)∧w=w':=by
 go_enter func148,ntmps148;go_wp2_with fail;go_ret;exact⟨rfl,rfl⟩
theorem scalar_3 (p:Int) (k1:0 < p) (k2:p≤1114111) (k3:55296≤p) (k4:p≤57343) (w:World):Calls prog 148 #[.int .i64 p] w fun e w'=>e=.returned (.bool false)∧w=w':=by
 go_enter func148,ntmps148;go_wp2_with fail;go_ret;exact⟨Z8 (by rw[decide_eq_false (by omega),decide_eq_false (by omega)];rfl),rfl⟩
theorem scalar_4 (p:Int) (k1:0 < p) (k2:1114111 < p) (w:World):Calls prog 148 #[.int .i64 p] w fun e w'=>e=.returned (.bool false)∧w=w':=by
 go_enter func148,ntmps148;go_wp2_with fail;go_ret;exact⟨rfl,rfl⟩
theorem scalar_5 (p:Int) (k1:p≤0) (w:World):Calls prog 148 #[.int .i64 p] w fun e w'=>e=.returned (.bool false)∧w=w':=by
 go_enter func148,ntmps148;go_wp2_with fail;go_ret;exact⟨rfl,rfl⟩
theorem z5w (n:Nat):Mk.scalar n=(decide (0 < n) && decide (n≤1114111) && (decide (n < 55296) || decide (57343 < n))):=rfl
theorem q2y (n:Nat) (w:World):Calls prog 148 #[.int .i64 n] w fun e w'=>e=.returned (.bool (Mk.scalar n))∧w=w':=by
 rw[z5w n]
 by_cases h1:0 < n
 ·by_cases h2:n≤1114111
  ·by_cases h3:n < 55296
   ·rw[decide_eq_true h1,decide_eq_true h2,decide_eq_true h3,Bool.true_or,Bool.true_and,Bool.true_and]
    exact scalar_1 n (by omega) (by omega) (by omega) w
   ·by_cases h4:57343 < n
    ·rw[decide_eq_true h1,decide_eq_true h2,decide_eq_true h4,Bool.or_true,Bool.true_and,Bool.true_and]
     exact scalar_2 n (by omega) (by omega) (by omega) (by omega) w
    ·rw[decide_eq_false h3,decide_eq_false h4,Bool.or_false,Bool.and_false]
     exact scalar_3 n (by omega) (by omega) (by omega) (by omega) w
  ·rw[decide_eq_false h2,Bool.and_false,Bool.false_and]
   exact scalar_4 n (by omega) (by omega) w
 ·rw[decide_eq_false h1,Bool.false_and,Bool.false_and]
  exact scalar_5 n (by omega) w

abbrev rdCells (s:ByteArray) (k:Nat) (tx:List UInt8) (ov:Value):Array Value:=#[.string s,.int .i64 k,.string (st tx),ov]
def Rd (w:World) (R:Nat) (s:ByteArray) (k:Nat) (tx:List UInt8) (ov:Value):Prop:=Blk w R 88 (rdCells s k tx ov)
section
variable {w w' : World} {R : Nat} {s : ByteArray} {k : Nat} {tx : List UInt8} {ov : Value}
theorem Rd.c0 (h:Rd w R s k tx ov):w.cell? ⟨R,0,none⟩=some (.string s):=h.cell 0
theorem Rd.c1 (h:Rd w R s k tx ov):w.cell? ⟨R,1,none⟩=some (.int .i64 k):=h.cell 1
theorem Rd.c2 (h:Rd w R s k tx ov):w.cell? ⟨R,2,none⟩=some (.string (st tx)):=h.cell 2
theorem Rd.c3 (h:Rd w R s k tx ov):w.cell? ⟨R,3,none⟩=some ov:=h.cell 3
theorem Rd.fz (h:Rd w R s k tx ov) (i:Nat):w.frozen? ⟨R,i,none⟩=false:=h.frozen i
theorem Rd.drewN (h:Rd w R s k tx ov) (n:Nat):Rd (w.drewN n) R s k tx ov:=Blk.drewN h n
theorem Rd.at_ (h:Rd w R s k tx ov) (j:Nat):Rd (w.setCell ⟨R,1,none⟩ (.int .i64 j)) R s j tx ov:=Blk.set_ h 1 _
end
def Asks (g:FuncId) (lb:Array Value) (q:UInt8→Bool) (w:World):Prop:=∀ c:UInt8,Calls prog g (#[.int .u8 (c.toNat:Int)]++lb) w fun e w'=>e=.returned (.bool (q c))∧w'=w
structure Moved (R:Nat) (w w':World):Prop where
 os:w'.os=w.os
 tape:w'.tape=w.tape
 output:w'.output=w.output
 size:w'.heap.size=w.heap.size
 block:∀ k,k ≠ R→w'.heap[k]? = w.heap[k]?
theorem Moved.refl (R:Nat) (w:World):Moved R w w:=⟨rfl,rfl,rfl,rfl,fun _ _=>rfl⟩
theorem Moved.trans {R:Nat} {a b c:World} (h:Moved R a b) (k:Moved R b c):Moved R a c:=⟨k.os.trans h.os,k.tape.trans h.tape,k.output.trans h.output,k.size.trans h.size,fun i hi=>(k.block i hi).trans (h.block i hi)⟩
theorem Moved.drewN {R:Nat} {a b:World} (h:Moved R a b) (n:Nat):Moved R a (b.drewN n):=⟨h.os,h.tape,h.output,h.size,h.block⟩
theorem Moved.setCell {R:Nat} {a b:World} (h:Moved R a b) (i:Nat) (v:Value):Moved R a (b.setCell ⟨R,i,none⟩ v) :=
 ⟨h.os,h.tape,h.output,by rw[← h.size];simp[World.setCell],fun k hk=>(Below.heap_setCell b ⟨R,i,none⟩ v k hk).trans (h.block k hk)⟩
theorem Moved.below {R B:Nat} {a b:World} (h:Moved R a b) (hB:B≤R):Below B a b:=⟨h.os,h.tape,h.output,by rw[h.size];exact Lr,fun k hk=>h.block k (by omega)⟩

section
variable {w : World} {R : Nat} {s : ByteArray} {k : Nat} {tx : List UInt8} {ov : Value}
theorem j2h (g:FuncId) (lb:Array Value) (q:UInt8→Bool) (eg:∀ args w,(callFunc g args).run prog w=.ok (.enter g args) w) (h:Rd w R s k tx ov) (hk:k < s.size) (hq:∀ n,Asks g lb q (w.drewN n)) :
  Calls prog 138 #[.pointer (some ⟨R,0,none⟩),.func (.func g) #[] lb] w fun e w'=>e=.returned (.bool (q s[k]))∧∃ n,w'=w.drewN n:=by
 have c0:=h.c0;have c1:=h.c1;have hk1:(k:Int) < s.size:=by omega
 have HQ:=Ld hq;clear hq;go_enter func138,ntmps138;go_wp2_with fail
 go_quiet ((go_at_fn g;exact(HQ.out _ _).mono fun e w'' hh=>⟨hh.1,_,hh.2⟩))
 go_wp2_with fail;go_ret;exact⟨rfl,_,rfl⟩
theorem q8d (fv:Value) (h:Rd w R s k tx ov) (hk:s.size≤k) :
  Calls prog 138 #[.pointer (some ⟨R,0,none⟩),fv] w fun e w'=>e=.returned (.bool false)∧∃ n,w'=w.drewN n:=by
 have c0:=h.c0;have c1:=h.c1;have hd:decide (k < s.size)=false:=decide_eq_false (by omega);go_enter func138,ntmps138;go_wp2_with fail
 go_quiet (fail)
 go_wp2_with fail;go_ret;exact⟨rfl,_,rfl⟩
end

theorem j1f (s p:List UInt8):Lib.hasPrefix s p=Mg.pre p s:=by
 rw[← Lib.hasPrefix_of_take,Mg.pre,Bool.eq_iff_iff];simp only [Bool.and_eq_true,decide_eq_true_eq,beq_iff_eq];constructor
 ·exact fun h=>h.2
 ·intro h
  refine⟨?_,h⟩;have:=congrArg List.length h;rw[List.length_take] at this;omega
theorem z2o (s:ByteArray) (nm:List UInt8) (w:World):Calls prog 130 #[.string s,.string (st nm)] w fun e w'=>e=.returned (.bool (Mg.pre nm s.data.toList))∧w=w':=by
 refine(Tryz.strings_HasPrefix s (st nm) w).mono fun e w' ⟨he,hw⟩=>⟨?_,hw.symm⟩
 rw[he,show Lib.hasPrefix s.data.toList (st nm).data.toList=Mg.pre nm s.data.toList from j1f _ _]
theorem named_0 (l:List UInt8)  (h:Mg.pre [38,97,109,112,59] l=true):Mk.named l=some (38,5):=by
 unfold Mk.named;rw[if_pos h]
theorem named_1 (l:List UInt8) (h0:Mg.pre [38,97,109,112,59] l=false) (h:Mg.pre [38,108,116,59] l=true):Mk.named l=some (60,4):=by
 unfold Mk.named;rw[if_neg (by simp[h0]),if_pos h]
theorem named_2 (l:List UInt8) (h0:Mg.pre [38,97,109,112,59] l=false) (h1:Mg.pre [38,108,116,59] l=false) (h:Mg.pre [38,103,116,59] l=true):Mk.named l=some (62,4):=by
 unfold Mk.named;rw[if_neg (by simp[h0]),if_neg (by simp[h1]),if_pos h]
theorem named_3 (l:List UInt8) (h0:Mg.pre [38,97,109,112,59] l=false) (h1:Mg.pre [38,108,116,59] l=false) (h2:Mg.pre [38,103,116,59] l=false) (h:Mg.pre [38,113,117,111,116,59] l=true):Mk.named l=some (34,6):=by
 unfold Mk.named;rw[if_neg (by simp[h0]),if_neg (by simp[h1]),if_neg (by simp[h2]),if_pos h]
theorem named_4 (l:List UInt8) (h0:Mg.pre [38,97,109,112,59] l=false) (h1:Mg.pre [38,108,116,59] l=false) (h2:Mg.pre [38,103,116,59] l=false) (h3:Mg.pre [38,113,117,111,116,59] l=false) (h:Mg.pre [38,97,112,111,115,59] l=true):Mk.named l=some (39,6):=by
 unfold Mk.named;rw[if_neg (by simp[h0]),if_neg (by simp[h1]),if_neg (by simp[h2]),if_neg (by simp[h3]),if_pos h]
theorem named_no (l:List UInt8) (h0:Mg.pre [38,97,109,112,59] l=false) (h1:Mg.pre [38,108,116,59] l=false) (h2:Mg.pre [38,103,116,59] l=false) (h3:Mg.pre [38,113,117,111,116,59] l=false) (h4:Mg.pre [38,97,112,111,115,59] l=false):Mk.named l=none:=by
 unfold Mk.named;rw[if_neg (by simp[h0]),if_neg (by simp[h1]),if_neg (by simp[h2]),if_neg (by simp[h3]),if_neg (by simp[h4])]
def q5y:Option (UInt8 × Nat)→Value
 | none=>.tuple #[.string (st []),.int .i64 0]
 | some (c,n)=>.tuple #[.string (st [c]),.int .i64 n]
def j2b (l:List UInt8) (k:Nat):Prop:=(0 < k→Mg.pre [38,97,109,112,59] l=false)∧(1 < k→Mg.pre [38,108,116,59] l=false)∧(2 < k→Mg.pre [38,103,116,59] l=false)∧(3 < k→Mg.pre [38,113,117,111,116,59] l=false)∧(4 < k→Mg.pre [38,97,112,111,115,59] l=false)

theorem j4r (s:ByteArray) (w:World):Calls prog 146 #[.string s] w fun e w'=>e=.returned (q5y (Mk.named s.data.toList))∧Below w.heap.size w w':=by
 have hb0:=Blk.new w 9 #[.string (st [38,97,109,112,59,38]),.string (st [38,108,116,59,60]),.string (st [38,103,116,59,62]),.string (st [38,113,117,111,116,59,34]),.string (st [38,97,112,111,115,59,39])];have hl0:=(Below.refl _ w).alloc (Lr) (.cells #[.string (st [38,97,109,112,59,38]),.string (st [38,108,116,59,60]),.string (st [38,103,116,59,62]),.string (st [38,113,117,111,116,59,34]),.string (st [38,97,112,111,115,59,39])] 9);go_enter func146,ntmps146;go_wp2_with fail;change Code.wp _ _ _ _ (w.alloc (.cells #[.string (st [38,97,109,112,59,38]),.string (st [38,108,116,59,60]),.string (st [38,103,116,59,62]),.string (st [38,113,117,111,116,59,34]),.string (st [38,97,112,111,115,59,39])] 9));generalize w.alloc (.cells #[.string (st [38,97,109,112,59,38]),.string (st [38,108,116,59,60]),.string (st [38,103,116,59,62]),.string (st [38,113,117,111,116,59,34]),.string (st [38,97,112,111,115,59,39])] 9)=w0 at hb0 hl0 ⊢
 go_loopw [10] (fun i wr=>∃ k:Nat,k≤5∧i=.int .i64 k∧Hid (j2b s.data.toList k)∧∃ n,wr=w0.drewN n) (fun i _=>5 - (intOf i).toNat)
 case atStart=>exact⟨0,by omega,rfl,⟨fun h=>absurd h (by omega),fun h=>absurd h (by omega),fun h=>absurd h (by omega),fun h=>absurd h (by omega),fun h=>absurd h (by omega)⟩,0,rfl⟩
 case round =>
  obtain⟨k,hk,rfl,hp,n,rfl⟩:=hrel;replace hb0:=hb0.drewN n;have h5:k=0∨k=1∨k=2∨k=3∨k=4∨k=5:=by omega
  rcases h5 with rfl | rfl | rfl | rfl | rfl | rfl
  ·have c0:(w0.drewN n).cell? ⟨w.heap.size,0,none⟩=some (.string (st [38,97,109,112,59,38])):=hb0.cell 0
   have hz:(st [38,97,109,112,59,38]).size=6:=rfl;have hx1:(st [38,97,109,112,59,38]).extract 0 5=st [38,97,109,112,59]:=by rw[Z4];rfl
   have hx2:(st [38,97,109,112,59,38]).extract 5 6=st [38]:=by rw[Z4];rfl
   have hz2:(st [38,97,109,112,59]).size=5:=rfl;go_wp2_with fail
   go_quiet (fail)
   go_wp2_with fail;refine(z2o s [38,97,109,112,59] _).mono ?_;rintro e w1 ⟨rfl,rfl⟩
   cases hx:Mg.pre [38,97,109,112,59] s.data.toList with
   | true =>
    have HN:=Ld (named_0 s.data.toList  hx);clear hx;go_wp2_with fail;go_ret2;exact⟨by rw[HN.out];rfl,below_drewN hl0 _⟩
   | false =>
    have hp2:j2b s.data.toList 1:=⟨fun _=>hx,fun h=>absurd h (by omega),fun h=>absurd h (by omega),fun h=>absurd h (by omega),fun h=>absurd h (by omega)⟩;have HP:=Ld hp2;clear hx hp2;go_wp2_with fail;go_roundw
    case rel=>exact⟨1,by omega,by go_num,HP,_,rfl⟩
    case measure=>simp[intOf]
  ·have c0:(w0.drewN n).cell? ⟨w.heap.size,1,none⟩=some (.string (st [38,108,116,59,60])):=hb0.cell 1
   have hz:(st [38,108,116,59,60]).size=5:=rfl;have hx1:(st [38,108,116,59,60]).extract 0 4=st [38,108,116,59]:=by rw[Z4];rfl
   have hx2:(st [38,108,116,59,60]).extract 4 5=st [60]:=by rw[Z4];rfl
   have hz2:(st [38,108,116,59]).size=4:=rfl;go_wp2_with fail
   go_quiet (fail)
   go_wp2_with fail;refine(z2o s [38,108,116,59] _).mono ?_;rintro e w1 ⟨rfl,rfl⟩
   cases hx:Mg.pre [38,108,116,59] s.data.toList with
   | true =>
    have HN:=Ld (named_1 s.data.toList (hp.out.1 (by omega)) hx);clear hx;go_wp2_with fail;go_ret2;exact⟨by rw[HN.out];rfl,below_drewN hl0 _⟩
   | false =>
    have hp2:j2b s.data.toList 2:=⟨fun _=>hp.out.1 (by omega),fun _=>hx,fun h=>absurd h (by omega),fun h=>absurd h (by omega),fun h=>absurd h (by omega)⟩;have HP:=Ld hp2;clear hx hp2;go_wp2_with fail;go_roundw
    case rel=>exact⟨2,by omega,by go_num,HP,_,rfl⟩
    case measure=>simp[intOf]
  ·have c0:(w0.drewN n).cell? ⟨w.heap.size,2,none⟩=some (.string (st [38,103,116,59,62])):=hb0.cell 2
   have hz:(st [38,103,116,59,62]).size=5:=rfl;have hx1:(st [38,103,116,59,62]).extract 0 4=st [38,103,116,59]:=by rw[Z4];rfl
   have hx2:(st [38,103,116,59,62]).extract 4 5=st [62]:=by rw[Z4];rfl
   have hz2:(st [38,103,116,59]).size=4:=rfl;go_wp2_with fail
   go_quiet (fail)
   go_wp2_with fail;refine(z2o s [38,103,116,59] _).mono ?_;rintro e w1 ⟨rfl,rfl⟩
   cases hx:Mg.pre [38,103,116,59] s.data.toList with
   | true =>
    have HN:=Ld (named_2 s.data.toList (hp.out.1 (by omega)) (hp.out.2.1 (by omega)) hx);clear hx;go_wp2_with fail;go_ret2;exact⟨by rw[HN.out];rfl,below_drewN hl0 _⟩
   | false =>
    have hp2:j2b s.data.toList 3:=⟨fun _=>hp.out.1 (by omega),fun _=>hp.out.2.1 (by omega),fun _=>hx,fun h=>absurd h (by omega),fun h=>absurd h (by omega)⟩;have HP:=Ld hp2;clear hx hp2;go_wp2_with fail;go_roundw
    case rel=>exact⟨3,by omega,by go_num,HP,_,rfl⟩
    case measure=>simp[intOf]
  ·have c0:(w0.drewN n).cell? ⟨w.heap.size,3,none⟩=some (.string (st [38,113,117,111,116,59,34])):=hb0.cell 3
   have hz:(st [38,113,117,111,116,59,34]).size=7:=rfl;have hx1:(st [38,113,117,111,116,59,34]).extract 0 6=st [38,113,117,111,116,59]:=by rw[Z4];rfl
   have hx2:(st [38,113,117,111,116,59,34]).extract 6 7=st [34]:=by rw[Z4];rfl
   have hz2:(st [38,113,117,111,116,59]).size=6:=rfl;go_wp2_with fail
   go_quiet (fail)
   go_wp2_with fail;refine(z2o s [38,113,117,111,116,59] _).mono ?_;rintro e w1 ⟨rfl,rfl⟩
   cases hx:Mg.pre [38,113,117,111,116,59] s.data.toList with
   | true =>
    have HN:=Ld (named_3 s.data.toList (hp.out.1 (by omega)) (hp.out.2.1 (by omega)) (hp.out.2.2.1 (by omega)) hx);clear hx;go_wp2_with fail;go_ret2;exact⟨by rw[HN.out];rfl,below_drewN hl0 _⟩
   | false =>
    have hp2:j2b s.data.toList 4:=⟨fun _=>hp.out.1 (by omega),fun _=>hp.out.2.1 (by omega),fun _=>hp.out.2.2.1 (by omega),fun _=>hx,fun h=>absurd h (by omega)⟩;have HP:=Ld hp2;clear hx hp2;go_wp2_with fail;go_roundw
    case rel=>exact⟨4,by omega,by go_num,HP,_,rfl⟩
    case measure=>simp[intOf]
  ·have c0:(w0.drewN n).cell? ⟨w.heap.size,4,none⟩=some (.string (st [38,97,112,111,115,59,39])):=hb0.cell 4
   have hz:(st [38,97,112,111,115,59,39]).size=7:=rfl;have hx1:(st [38,97,112,111,115,59,39]).extract 0 6=st [38,97,112,111,115,59]:=by rw[Z4];rfl
   have hx2:(st [38,97,112,111,115,59,39]).extract 6 7=st [39]:=by rw[Z4];rfl
   have hz2:(st [38,97,112,111,115,59]).size=6:=rfl;go_wp2_with fail
   go_quiet (fail)
   go_wp2_with fail;refine(z2o s [38,97,112,111,115,59] _).mono ?_;rintro e w1 ⟨rfl,rfl⟩
   cases hx:Mg.pre [38,97,112,111,115,59] s.data.toList with
   | true =>
    have HN:=Ld (named_4 s.data.toList (hp.out.1 (by omega)) (hp.out.2.1 (by omega)) (hp.out.2.2.1 (by omega)) (hp.out.2.2.2.1 (by omega)) hx);clear hx;go_wp2_with fail;go_ret2;exact⟨by rw[HN.out];rfl,below_drewN hl0 _⟩
   | false =>
    have hp2:j2b s.data.toList 5:=⟨fun _=>hp.out.1 (by omega),fun _=>hp.out.2.1 (by omega),fun _=>hp.out.2.2.1 (by omega),fun _=>hp.out.2.2.2.1 (by omega),fun _=>hx⟩;have HP:=Ld hp2;clear hx hp2;go_wp2_with fail;go_roundw
    case rel=>exact⟨5,by omega,by go_num,HP,_,rfl⟩
    case measure=>simp[intOf]
  ·have hno:=named_no s.data.toList (hp.out.1 (by omega)) (hp.out.2.1 (by omega)) (hp.out.2.2.1 (by omega)) (hp.out.2.2.2.1 (by omega)) (hp.out.2.2.2.2 (by omega))
   have HN:=Ld hno;clear hno;go_wp2_with fail;go_ret2;exact⟨by rw[HN.out];rfl,below_drewN hl0 _⟩
end Go.Proofs.YtagleefekmdldaaGreatDoor
