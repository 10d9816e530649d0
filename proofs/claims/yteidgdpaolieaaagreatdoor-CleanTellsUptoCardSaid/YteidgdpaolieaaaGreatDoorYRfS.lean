/- Contracts of the reference's IsLong, mayHave, hasSrc, inWords, IsAllowed, LightOf: names that may be, links in the light of a base. Condition: texts and lists of at most 33554432. -/
import Derived.Test.YteidgdpaolieaaaGreatDoorYMkTok8
import Derived.Test.YteidgdpaolieaaaGreatDoorYMkSame
import Derived.Test.YteidgdpaolieaaaGreatDoorYUrlS
import Derived.Test.YteidgdpaolieaaaGreatDoorYRfIs
import Derived.Test.YteidgdpaolieaaaGreatDoorYMkHtml
import Derived.Test.YteidgdpaolieaaaGreatDoorYRfK
import Derived.Test.YteidgdpaolieaaaGreatDoorYRfJ
set_option linter.unusedVariables false
set_option linter.unusedSimpArgs false
namespace Mk
/-- is a word one of some? -/
def inW (l : List Bs) (n : Bs) : Bool:=l.any fun x=>x == n
theorem inW_take (l : List Bs) (n : Bs) (i : Nat) (h : i < l.length) : inW (l.take (i + 1)) n = (inW (l.take i) n || l[i] == n):=by
 unfold inW
 rw [List.take_succ_eq_append_getElem h,List.any_append]
 simp
theorem inW_mono (l : List Bs) (n : Bs) (i : Nat) (h : inW (l.take i) n = true) : inW l n = true:=by
 unfold inW at *
 rw [List.any_eq_true] at *
 obtain ⟨x,hx,hq⟩:=h
 exact ⟨x,List.mem_of_mem_take hx,hq⟩
theorem inW_gone (n : Bs) : inW [[115,99,114,105,112,116],[115,116,121,108,101],[116,101,109,112,108,97,116,101]] n = goneB n:=by
 have h : ∀ x : Bs,(x == n) = (n == x):=fun x=>by rw [Bool.eq_iff_iff,beq_iff_eq,beq_iff_eq];exact eq_comm
 unfold inW goneB
 simp only [List.any_cons,List.any_nil,Bool.or_false,h,Bool.or_assoc]
theorem inW_ok (n : Bs) : inW okNames n = allowedB n:=by
 unfold inW allowedB
 rw [Bool.eq_iff_iff,List.any_eq_true,List.contains_iff_mem]
 constructor
 ·rintro ⟨x,hx,hq⟩
  rw [beq_iff_eq] at hq
  rw [← hq];exact hx
 ·intro h
  exact ⟨n,h,beq_self_eq_true n⟩
theorem hasAt_mono2 (l : List At) (n : Bs) (i : Nat) (h : hasAt (l.take i) n = true) : hasAt l n = true:=by
 unfold hasAt at *
 rw [List.any_eq_true] at *
 obtain ⟨x,hx,hq⟩:=h
 exact ⟨x,List.mem_of_mem_take hx,hq⟩
end Mk
namespace Go.Proofs.YteidgdpaolieaaaGreatDoor
open Go.RowKit
set_option maxHeartbeats 1000000 in
theorem rf_IsLong (s : List UInt8) (w : World) :
  Calls Tryz.prog 37 #[.string (st s)] w fun e w'=>e = .returned (.bool (decide (3000 < s.length)))∧w' = w:=by
 have e1 : (st s).size = s.length:=st_size s
 by_cases h : 3000 < s.length
 ·have HD : Hid (decide (3000 < s.length) = true):=decide_eq_true h
  have h2 : (3000 : Int) < s.length:=by omega
  clear h
  go_enter Tryz.func37,Tryz.ntmps37
  go_wp2_with fail
  go_ret
  exact ⟨ret_bool (by (rw [HD.out]) <;> (first | rfl | simp [*])),rfl⟩
 ·have HD : Hid (decide (3000 < s.length) = false):=decide_eq_false h
  have h2 : ¬ (3000 : Int) < s.length:=by omega
  clear h
  go_enter Tryz.func37,Tryz.ntmps37
  go_wp2_with fail
  go_ret
  exact ⟨ret_bool (by (rw [HD.out]) <;> (first | rfl | simp [*])),rfl⟩
set_option maxHeartbeats 2000000 in
theorem rf_mayHave (e n : List UInt8) (w : World) :
  Calls Tryz.prog 34 #[.string (st e),.string (st n)] w fun x w'=>x = .returned (.bool (Mk.mayB e n))∧w' = w:=by
 have hst : ∀ l : List UInt8,(st l).toList = l:=fun l=>Lib.toList_data _
 have HM : Hid (Mk.mayB e n = if e = [97] then n == [104,114,101,102] || n == [116,105,116,108,101] else if e = [105,109,103] then n == [115,114,99] || n == [97,108,116] else false):=rfl
 rcases name_cases e [97] with ⟨h,q⟩ | ⟨h,q⟩
 ·have q2 : (e == [105,109,103]) = false:=by rw [h];decide
  have HM2 : Hid (Mk.mayB e n = (n == [104,114,101,102] || n == [116,105,116,108,101])):=by show _ = _;rw [HM.out,if_pos h]
  clear h HM
  rcases name_cases n [104,114,101,102] with ⟨h1,q3⟩ | ⟨h1,q3⟩
  ·have HR : Hid (Mk.mayB e n = true):=by show _ = _;rw [HM2.out,q3];rfl
   clear HM2 h1
   go_enter Tryz.func34,Tryz.ntmps34
   go_wp2_with fail
   go_ret
   exact ⟨ret_bool (by rw [HR.out]),rfl⟩
  rcases name_cases n [116,105,116,108,101] with ⟨h2,q4⟩ | ⟨h2,q4⟩
  ·have HR : Hid (Mk.mayB e n = true):=by show _ = _;rw [HM2.out,q4];simp
   clear HM2 h1 h2
   go_enter Tryz.func34,Tryz.ntmps34
   go_wp2_with fail
   go_ret
   exact ⟨ret_bool (by rw [HR.out]),rfl⟩
  ·have HR : Hid (Mk.mayB e n = false):=by show _ = _;rw [HM2.out,q3,q4];rfl
   clear HM2 h1 h2
   go_enter Tryz.func34,Tryz.ntmps34
   go_wp2_with fail
   go_ret
   exact ⟨ret_bool (by rw [HR.out]),rfl⟩
 rcases name_cases e [105,109,103] with ⟨h0,q2⟩ | ⟨h0,q2⟩
 ·have HM2 : Hid (Mk.mayB e n = (n == [115,114,99] || n == [97,108,116])):=by show _ = _;rw [HM.out,if_neg h,if_pos h0]
  clear h h0 HM
  rcases name_cases n [115,114,99] with ⟨h1,q3⟩ | ⟨h1,q3⟩
  ·have HR : Hid (Mk.mayB e n = true):=by show _ = _;rw [HM2.out,q3];rfl
   clear HM2 h1
   go_enter Tryz.func34,Tryz.ntmps34
   go_wp2_with fail
   go_ret
   exact ⟨ret_bool (by rw [HR.out]),rfl⟩
  rcases name_cases n [97,108,116] with ⟨h2,q4⟩ | ⟨h2,q4⟩
  ·have HR : Hid (Mk.mayB e n = true):=by show _ = _;rw [HM2.out,q4];simp
   clear HM2 h1 h2
   go_enter Tryz.func34,Tryz.ntmps34
   go_wp2_with fail
   go_ret
   exact ⟨ret_bool (by rw [HR.out]),rfl⟩
  ·have HR : Hid (Mk.mayB e n = false):=by show _ = _;rw [HM2.out,q3,q4];rfl
   clear HM2 h1 h2
   go_enter Tryz.func34,Tryz.ntmps34
   go_wp2_with fail
   go_ret
   exact ⟨ret_bool (by rw [HR.out]),rfl⟩
 ·have HR : Hid (Mk.mayB e n = false):=by show _ = _;rw [HM.out,if_neg h,if_neg h0]
  clear h h0 HM
  go_enter Tryz.func34,Tryz.ntmps34
  go_wp2_with fail
  go_ret
  exact ⟨ret_bool (by rw [HR.out]),rfl⟩
set_option maxHeartbeats 2000000 in
set_option maxRecDepth 100000 in
theorem rf_hasSrc (l : List Mk.At) (v : Value) (K : Nat→Prop) (w : World) (hv : AtsV w K v l) (hl : l.length≤33554432) :
  Calls Tryz.prog 38 #[v] w fun e w'=>e = .returned (.bool (Mk.hasAt l [115,114,99]))∧w' = w:=by
 have hst : ∀ l : List UInt8,(st l).toList = l:=fun l=>Lib.toList_data _
 obtain ⟨ao,cap,hv1,hvm,hvc⟩:=hv.get
 subst hv1
 have HV:=Lib.hid hvc
 clear hvc hv
 go_enter Tryz.func38,Tryz.ntmps38
 go_wp2_with fail
 go_loop [3] (fun i=>∃ k : Nat,k≤l.length∧i = .int .i64 (k : Int)∧Hid (Mk.hasAt (l.take k) [115,114,99] = false)) (fun i=>l.length - (intOf i).toNat)
 case atStart=>exact ⟨0,Nat.zero_le _,rfl,rfl⟩
 case round =>
  obtain ⟨k,hk,rfl,HA⟩:=hrel
  by_cases hlt : k < l.length
  ·obtain ⟨g,o,rfl,hKg,c0,_⟩:=HV.out k hlt
   have HT:=Lib.hid (Mk.hasAt_take l [115,114,99] k hlt)
   obtain ⟨x,hx⟩ : ∃ x,l[k] = x:=⟨_,rfl⟩
   rw [hx] at c0 HT
   have hki : (k : Int) < l.length:=by omega
   have hk0 : (0 : Int)≤k:=by omega
   clear hx HV
   rcases name_cases x.n [115,114,99] with ⟨h,q⟩ | ⟨h,q⟩
   ·have HR : Hid (Mk.hasAt l [115,114,99] = true):=Mk.hasAt_mono2 l _ (k + 1) (by rw [HT.out,HA.out,q];rfl)
    clear h HT HA
    go_wp2_with fail
    go_ret
    exact ⟨ret_bool (by rw [HR.out]),rfl⟩
   ·have HR : Hid (Mk.hasAt (l.take (k + 1)) [115,114,99] = false):=by show _ = _;rw [HT.out,HA.out,q];rfl
    clear h HT HA
    go_wp2_with fail
    go_round
    case rel=>exact ⟨k + 1,by omega,by go_num,HR⟩
    case measure=>simp [intOf];omega
  ·have HR : Hid (Mk.hasAt l [115,114,99] = false):=by
    have:=HA.out
    rw [List.take_of_length_le (by omega)] at this
    exact this
   have hki : ¬ (k : Int) < l.length:=by omega
   clear HA HV
   go_wp2_with fail
   go_ret
   exact ⟨ret_bool (by rw [HR.out]),rfl⟩
set_option maxHeartbeats 2000000 in
set_option maxRecDepth 100000 in
theorem rf_inWords (n : List UInt8) (l : List (List UInt8)) (v : Value) (K : Nat→Prop) (w : World) (hv : StrsV w K v l) (hl : l.length≤33554432) :
  Calls Tryz.prog 31 #[.string (st n),v] w fun e w'=>e = .returned (.bool (Mk.inW l n))∧w' = w:=by
 have hst : ∀ l : List UInt8,(st l).toList = l:=fun l=>Lib.toList_data _
 obtain ⟨ao,cap,hv1,hvc,hvm,hat⟩:=hv.at_
 subst hv1
 have HV : Hid (∀ k (hk : k < l.length),∃ g o,ao = some ⟨g,o,none⟩∧w.cell? ⟨g,o + k,none⟩ = some (.string (st l[k]))):=fun k hk=>by
  rcases hat with h | ⟨g,o,h1,_,h3⟩
  ·rw [h] at hk;simp at hk
  ·exact ⟨g,o,h1,h3 k hk⟩
 clear hat hv
 go_enter Tryz.func31,Tryz.ntmps31
 go_wp2_with fail
 go_loop [5] (fun i=>∃ k : Nat,k≤l.length∧i = .int .i64 (k : Int)∧Hid (Mk.inW (l.take k) n = false)) (fun i=>l.length - (intOf i).toNat)
 case atStart=>exact ⟨0,Nat.zero_le _,rfl,rfl⟩
 case round =>
  obtain ⟨k,hk,rfl,HA⟩:=hrel
  by_cases hlt : k < l.length
  ·obtain ⟨g,o,rfl,c0⟩:=HV.out k hlt
   have HT:=Lib.hid (Mk.inW_take l n k hlt)
   obtain ⟨x,hx⟩ : ∃ x,l[k] = x:=⟨_,rfl⟩
   rw [hx] at c0 HT
   have hki : (k : Int) < l.length:=by omega
   have hk0 : (0 : Int)≤k:=by omega
   clear hx HV
   rcases name_cases x n with ⟨h,q⟩ | ⟨h,q⟩
   ·have HR : Hid (Mk.inW l n = true):=Mk.inW_mono l n (k + 1) (by rw [HT.out,HA.out,q];rfl)
    clear h HT HA
    go_wp2_with fail
    go_ret
    exact ⟨ret_bool (by rw [HR.out]),rfl⟩
   ·have HR : Hid (Mk.inW (l.take (k + 1)) n = false):=by show _ = _;rw [HT.out,HA.out,q];rfl
    clear h HT HA
    go_wp2_with fail
    go_round
    case rel=>exact ⟨k + 1,by omega,by go_num,HR⟩
    case measure=>simp [intOf];omega
  ·have HR : Hid (Mk.inW l n = false):=by
    have:=HA.out
    rw [List.take_of_length_le (by omega)] at this
    exact this
   have hki : ¬ (k : Int) < l.length:=by omega
   clear HA HV
   go_wp2_with fail
   go_ret
   exact ⟨ret_bool (by rw [HR.out]),rfl⟩
/-- a block of words reads as a list. -/
theorem StrsV.blk {w : World} {q : Nat} {t : TypeId} {vs : Array Value} (l : List (List UInt8)) (h : Blk w q t vs) (hv : vs.toList = strVs l) (hl : l.length≤maxLen) : StrsV w (fun b=>b = q) (.slice (some ⟨q,0,none⟩) l.length l.length) l:=by
 refine ⟨some ⟨q,0,none⟩,l.length,rfl,Nat.le_refl _,.inr ⟨q,0,rfl,rfl,fun i u hi=>?_⟩,hl⟩
 rw [Nat.zero_add,Blk.cell h i,← hi,← hv]
 simp
set_option maxHeartbeats 2000000 in
set_option maxRecDepth 100000 in
theorem rf_IsAllowed (n : List UInt8) (w : World) :
  Calls Tryz.prog 33 #[.string (st n)] w fun e w'=>e = .returned (.bool (Mk.allowedB n))∧Below w.heap.size w w':=by
 have HW : Hid (∀ W q vs,Blk W q 9 vs→vs.toList = strVs Mk.okNames→Calls Tryz.prog 31 #[.string (st n),.slice (some ⟨q,0,none⟩) 14 14] W fun e w'=>e = .returned (.bool (Mk.allowedB n))∧w' = W):=fun W q vs hb hq=>by
  have:=rf_inWords n Mk.okNames (.slice (some ⟨q,0,none⟩) 14 14) _ W (StrsV.blk Mk.okNames hb hq (by decide)) (by decide)
  rw [Mk.inW_ok] at this
  exact this
 go_enter Tryz.func33,Tryz.ntmps33
 go_wp2_with fail
 refine (HW.out _ _ _ (Blk.new w _ _) rfl).mono ?_
 rintro e w2 ⟨rfl,hw2⟩
 subst hw2
 go_wp2_with fail
 go_ret
 exact ⟨rfl,(Below.refl _ w).alloc (Nat.le_refl _) _⟩
set_option maxHeartbeats 2000000 in
set_option maxRecDepth 100000 in
theorem rf_LightOf (base s : List UInt8) (w : World) :
  Calls Tryz.prog 35 #[.string (st base),.string (st s)] w fun e w'=>e = .returned (.string (st (Mk.light base s)))∧Below w.heap.size w w':=by
 have HL : Hid (Mk.light base s = if 3000 < base.length ∨ 3000 < s.length ∨ Mg.schOf base = 0 then s else match Mg.res base s with | none=>s | some t=>t):=rfl
 have HB:=Lib.hid (rf_IsLong base w)
 have HS:=Lib.hid (rf_IsLong s w)
 by_cases h1 : 3000 < base.length
 ·rw [decide_eq_true h1] at HB
  have HR : Hid (Mk.light base s = s):=by show _ = _;rw [HL.out,if_pos (.inl h1)]
  clear h1 HL HS
  go_enter Tryz.func35,Tryz.ntmps35
  go_wp2_with fail
  refine HB.out.mono ?_
  rintro e w2 ⟨rfl,hw2⟩
  subst hw2
  go_wp2_with fail
  go_ret
  exact ⟨ret_str (by rw [HR.out]),Below.refl _ _⟩
 rw [decide_eq_false h1] at HB
 by_cases h2 : 3000 < s.length
 ·rw [decide_eq_true h2] at HS
  have HR : Hid (Mk.light base s = s):=by show _ = _;rw [HL.out,if_pos (.inr (.inl h2))]
  clear h1 h2 HL
  go_enter Tryz.func35,Tryz.ntmps35
  go_wp2_with fail
  refine HB.out.mono ?_
  rintro e w2 ⟨rfl,hw2⟩
  subst hw2
  go_wp2_with fail
  refine HS.out.mono ?_
  rintro e w3 ⟨rfl,hw3⟩
  subst hw3
  go_wp2_with fail
  go_ret
  exact ⟨ret_str (by rw [HR.out]),Below.refl _ _⟩
 rw [decide_eq_false h2] at HS
 have hsc:=ref_schemeOf (st base) w (by rw [st_size];omega)
 rw [bs_st] at hsc
 by_cases h3 : Mg.schOf base = 0
 ·have HR : Hid (Mk.light base s = s):=by show _ = _;rw [HL.out,if_pos (.inr (.inr h3))]
  rw [h3] at hsc
  have HSC:=Lib.hid hsc
  clear h1 h2 h3 HL hsc
  go_enter Tryz.func35,Tryz.ntmps35
  go_wp2_with fail
  refine HB.out.mono ?_
  rintro e w2 ⟨rfl,hw2⟩
  subst hw2
  go_wp2_with fail
  refine HS.out.mono ?_
  rintro e w3 ⟨rfl,hw3⟩
  subst hw3
  go_wp2_with fail
  refine HSC.out.mono ?_
  rintro e w4 ⟨rfl,rfl⟩
  go_wp2_with fail
  go_ret
  exact ⟨ret_str (by rw [HR.out]),Below.refl _ _⟩
 have HSC:=Lib.hid hsc
 have hr:=ref_ResolveOf (st base) (st s) w (by rw [st_size];omega) (by rw [st_size];omega)
 rw [bs_st,bs_st] at hr
 have hl2 : Mk.light base s = match Mg.res base s with | none=>s | some t=>t:=by rw [HL.out,if_neg (by rintro (q | q | q);exact h1 q;exact h2 q;exact h3 q)]
 have h3b : (((Mg.schOf base : Nat) : Int) == 0) = false:=by rw [beq_eq_false_iff_ne];omega
 unfold Mg.res at hl2
 simp only at hl2
 generalize Mg.joinOk (Mg.resU (Mg.split base) (Mg.split s)) = jo at hr hl2
 generalize Mg.join (Mg.resU (Mg.split base) (Mg.split s)) = jn at hr hl2
 generalize Mg.schOf base = sc at HSC h3b
 have HRS:=Lib.hid hr
 have HL2:=Lib.hid hl2
 clear h1 h2 h3 HL hsc hr hl2
 cases jo with
 | false =>
  have HR : Hid (Mk.light base s = s):=by show _ = _;rw [HL2.out];rfl
  clear HL2
  go_enter Tryz.func35,Tryz.ntmps35
  go_wp2_with fail
  refine HB.out.mono ?_
  rintro e w2 ⟨rfl,hw2⟩
  subst hw2
  go_wp2_with fail
  refine HS.out.mono ?_
  rintro e w3 ⟨rfl,hw3⟩
  subst hw3
  go_wp2_with fail
  refine HSC.out.mono ?_
  rintro e w4 ⟨rfl,rfl⟩
  go_wp2_with fail
  refine HRS.out.mono ?_
  rintro e w5 ⟨rfl,hb5⟩
  go_wp2_with fail
  go_ret
  exact ⟨ret_str (by rw [HR.out]),hb5⟩
 | true =>
  have HR : Hid (Mk.light base s = jn):=by show _ = _;rw [HL2.out];rfl
  clear HL2
  go_enter Tryz.func35,Tryz.ntmps35
  go_wp2_with fail
  refine HB.out.mono ?_
  rintro e w2 ⟨rfl,hw2⟩
  subst hw2
  go_wp2_with fail
  refine HS.out.mono ?_
  rintro e w3 ⟨rfl,hw3⟩
  subst hw3
  go_wp2_with fail
  refine HSC.out.mono ?_
  rintro e w4 ⟨rfl,rfl⟩
  go_wp2_with fail
  refine HRS.out.mono ?_
  rintro e w5 ⟨rfl,hb5⟩
  go_wp2_with fail
  go_ret
  exact ⟨ret_str (by rw [HR.out]),hb5⟩
end Go.Proofs.YteidgdpaolieaaaGreatDoor

/- Contract of the reference's IsClean at a right tree. Condition: at most 33554432 nodes, attributes and letters. -/
namespace Mk
theorem right_drop : ∀ (f : Fo) (k : Nat) (n : Bs) (a : List At) (t : Bs) (kk r : Fo),Fo.right f→f.drop k = .node n a t kk r→(n = []→kk = .nil)∧Fo.right kk
 | .nil,0,n,a,t,kk,r,_,h=>by cases h
 | .nil,k + 1,n,a,t,kk,r,_,h=>by cases h
 | .node n' a' t' k' r',0,n,a,t,kk,r,ha,h=>by
  have h : Fo.node n' a' t' k' r' = .node n a t kk r:=h
  injection h with e1 e2 e3 e4 e5
  subst e1;subst e4
  exact ⟨fun q=>ha.1 q,ha.2.2.2.1⟩
 | .node n' a' t' k' r',k + 1,n,a,t,kk,r,ha,h=>right_drop r' k n a t kk r (ha.2.2.2.2) h
def badB (n : Bs) (x : At) : Bool:=!mayB n x.n || (linkB x.n && !goodLink x.v)
theorem badAts_take (n : Bs) (l : List At) (i : Nat) (h : i < l.length) : badAts n (l.take (i + 1)) = (badAts n (l.take i) || badB n l[i]):=by
 unfold badAts
 rw [List.take_succ_eq_append_getElem h,List.any_append]
 simp [badB]
theorem badAts_mono (n : Bs) (l : List At) (i : Nat) (h : badAts n (l.take i) = true) : badAts n l = true:=by
 unfold badAts at *
 rw [List.any_eq_true] at *
 obtain ⟨x,hx,hq⟩:=h
 exact ⟨x,List.mem_of_mem_take hx,hq⟩
end Mk
namespace Go.Proofs.YteidgdpaolieaaaGreatDoor
open Go.RowKit
def IsCleanC (f : Mk.Fo) : Prop:=∀ (v : Value) (K : Nat→Prop) (w : World),FoV w K v f→(∀ b,K b→b < w.heap.size)→Calls Tryz.prog 16 #[v] w fun e w'=>e = .returned (.bool (Mk.safeF f))∧Below w.heap.size w w'
set_option maxHeartbeats 16000000 in
set_option maxRecDepth 100000 in
theorem rf_IsClean (N : Nat) : ∀ f : Mk.Fo,f.bulk < N→f.bulk≤33554432→Mk.Fo.right f→IsCleanC f:=by
 induction N with
 | zero=>intro f hN;omega
 | succ N ih =>
  intro f hN hb hrt v K w hv hK
  have hst : ∀ l : List UInt8,(st l).toList = l:=fun l=>Lib.toList_data _
  obtain ⟨ao,cap,hv1,hvm,hvc⟩:=hv.get
  subst hv1
  have HV:=Lib.hid hvc
  have HK:=Lib.hid hK
  have hfl:=Mk.Fo.len_bulk f
  clear hvc hv hK
  go_enter Tryz.func16,Tryz.ntmps16
  go_wp2_with fail
  go_loopw [3] (fun i wr=>∃ k : Nat,k≤f.len∧i = .int .i64 (k : Int)∧Hid (Mk.safeF f = Mk.safeF (f.drop k))∧Hid (Below w.heap.size w wr)) (fun i _=>f.len - (intOf i).toNat)
  case atStart=>exact ⟨0,Nat.zero_le _,rfl,by show _ = _;rw [Mk.Fo.drop_zero],Below.refl _ _⟩
  case round =>
   obtain ⟨k,hk,rfl,HJ,BL⟩:=hrel
   by_cases hlt : k < f.len
   ·obtain ⟨n,a,t,kk,r,hd,hd1⟩:=Mk.Fo.drop_lt f k hlt
    obtain ⟨g,o,aoa,capa,aok,capk,rfl,hKg,c0,c1,c2,c3,hva,hvk⟩:=HV.out k n a t kk r hd
    have hgw:=HK.out g hKg
    obtain ⟨hrn,hrk⟩:=Mk.right_drop f k n a t kk r hrt hd
    have hdb : (f.drop k).bulk = 1 + n.length + t.length + Mk.Fo.atB a + kk.bulk + r.bulk:=by rw [hd];rfl
    have hdb2:=Mk.Fo.drop_bulk f k
    have hatl:=Mk.atB_len a
    have halen : a.length≤33554432:=by omega
    rw [← BL.out.cell (p:=⟨g,_,none⟩) hgw] at c0 c1 c2 c3
    have HJ2 : Hid (Mk.safeF f = (!Mk.badOne n a kk && Mk.safeF (f.drop (k + 1)))):=by show _ = _;rw [HJ.out,hd,hd1,Mk.safe_node]
    have hal1:=(Below.refl wr.heap.size wr).alloc (Nat.le_refl _) (.cells #[.string (st n),.slice aoa a.length capa,.string (st t),.slice aok kk.len capk] 52)
    have BL1:=Lib.hid (BL.out.trans (hal1.mono BL.out.size))
    have PB:=Lib.hid (Blk.new wr 52 #[.string (st n),.slice aoa a.length capa,.string (st t),.slice aok kk.len capk])
    have HFV : Hid (∀ W,Below w.heap.size w W→FoV W K (.slice aok kk.len capk) kk∧AtsV W K (.slice aoa a.length capa) a∧∀ b,K b→b < W.heap.size):=fun W hW=>⟨hvk.below HK.out hW,hva.below HK.out hW,fun b q=>Nat.lt_of_lt_of_le (HK.out b q) hW.size⟩
    have hki : (k : Int) < f.len:=by omega
    have hk0 : (0 : Int)≤k:=by omega
    have HIC : Hid (∀ W,Below w.heap.size w W→Calls Tryz.prog 16 #[.slice aok kk.len capk] W fun e w'=>e = .returned (.bool (Mk.safeF kk))∧Below W.heap.size W w'):=fun W hW=>ih kk (by omega) (by omega) hrk _ K W (HFV.out W hW).1 (HFV.out W hW).2.2
    have HHS : Hid (∀ W,Below w.heap.size w W→Calls Tryz.prog 38 #[.slice aoa a.length capa] W fun e w'=>e = .returned (.bool (Mk.hasAt a [115,114,99]))∧w' = W):=fun W hW=>rf_hasSrc a _ K W (HFV.out W hW).2.1 halen
    have HAV : Hid (∀ x ∈ a,x.v.length≤33554432):=fun x hx=>by have:=Mk.atB_mem hx;omega
    have HRN:=Lib.hid hrn
    clear hd hd1 hva hvk hdb hdb2 hal1 HJ HV hrn hrk ih
    go_upto_region 5 with fail
    generalize (wr.alloc (.cells #[.string (st n),.slice aoa a.length capa,.string (st t),.slice aok kk.len capk] 52)) = w1 at BL1 PB ⊢
    generalize wr.heap.size = T at PB ⊢
    clear c0 c1 c2 c3 BL
    have d0 : w1.cell? ⟨T,0,none⟩ = some (.string (st n)):=Blk.cell PB.out 0
    have d1 : w1.cell? ⟨T,1,none⟩ = some (.slice aoa a.length capa):=Blk.cell PB.out 1
    have d3 : w1.cell? ⟨T,3,none⟩ = some (.slice aok kk.len capk):=Blk.cell PB.out 3
    have hTl : T < w1.heap.size:=Blk.lt PB.out
    by_cases hn : n = []
    ·have hie : n.isEmpty = true:=by rw [hn];rfl
     have HR : Hid (Mk.safeF f = Mk.safeF (f.drop (k + 1))):=by show _ = _;rw [HJ2.out,HRN.out hn,hn];rfl
     clear HJ2 HRN hn HIC HHS HFV
     as_aux_lemma =>
     go_wp2_with fail
     go_roundw
     case rel=>exact ⟨k + 1,by omega,by go_num,HR,BL1⟩
     case measure=>simp [intOf];omega
    have hie : n.isEmpty = false:=by
     cases n with
     | nil=>exact absurd rfl hn
     | cons _ _=>rfl
    have HJ3 : Hid (Mk.safeF f = (!((!Mk.allowedB n || (n == [105,109,103] && !Mk.hasAt a [115,114,99]) || !Mk.safeF kk) || Mk.badAts n a) && Mk.safeF (f.drop (k + 1)))):=by
     show _ = _
     rw [HJ2.out]
     unfold Mk.badOne
     rw [show decide (n ≠ []) = true from decide_eq_true hn,show decide (n = [105,109,103]) = (n == [105,109,103]) from by rw [Bool.eq_iff_iff];simp]
     cases Mk.allowedB n <;> cases (n == [105,109,103]) <;> cases Mk.hasAt a [115,114,99] <;> cases Mk.safeF kk <;> cases Mk.badAts n a <;> rfl
    clear HJ2 HRN hn
    as_aux_lemma =>
    go_upto_region 6 with fail
    go_cut [40] (fun b wx=>b = .bool (!Mk.allowedB n || (n == [105,109,103] && !Mk.hasAt a [115,114,99]) || !Mk.safeF kk)∧Hid (Below w1.heap.size w1 wx))
    case first =>
     as_aux_lemma =>
     have HAL:=Lib.hid (fun W=>rf_IsAllowed n W)
     obtain ⟨ba,hba⟩ : ∃ b,Mk.allowedB n = b:=⟨_,rfl⟩
     obtain ⟨bh,hbh⟩ : ∃ b,Mk.hasAt a [115,114,99] = b:=⟨_,rfl⟩
     obtain ⟨bs,hbs⟩ : ∃ b,Mk.safeF kk = b:=⟨_,rfl⟩
     have HAL1 : Hid (Calls Tryz.prog 33 #[.string (st n)] w1 fun e w'=>e = .returned (.bool ba)∧Below w1.heap.size w1 w'):=by have:=HAL.out w1;rw [hba] at this;exact this
     rw [hbh] at HHS
     rw [hbs] at HIC
     have HB0 : Hid ((!Mk.allowedB n || (n == [105,109,103] && !Mk.hasAt a [115,114,99]) || !Mk.safeF kk) = (!ba || (n == [105,109,103] && !bh) || !bs)):=by show _ = _;rw [hba,hbh,hbs]
     clear HAL hba hbh hbs HJ3
     go_wp2_with fail
     refine HAL1.out.mono ?_
     rintro e w2 ⟨rfl,hb2⟩
     have BX2:=Lib.hid hb2
     have BW2:=Lib.hid (BL1.out.trans (hb2.mono BL1.out.size))
     have e0 : w2.cell? ⟨T,0,none⟩ = some (.string (st n)):=(hb2.cell (p:=⟨T,0,none⟩) hTl).trans d0
     have e1 : w2.cell? ⟨T,1,none⟩ = some (.slice aoa a.length capa):=(hb2.cell (p:=⟨T,1,none⟩) hTl).trans d1
     have e3 : w2.cell? ⟨T,3,none⟩ = some (.slice aok kk.len capk):=(hb2.cell (p:=⟨T,3,none⟩) hTl).trans d3
     clear HAL1 hb2 d0 d1 d3
     have HIC2:=Lib.hid (HIC.out w2 BW2.out)
     have HHS2:=Lib.hid (HHS.out w2 BW2.out)
     clear HIC HHS
     cases ba with
     | false =>
      go_wp2_with fail
      go_meet
      case rel=>exact ⟨by (rw [HB0.out]) <;> rfl,BX2⟩
     | true =>
      rcases name_cases n [105,109,103] with ⟨h,q⟩ | ⟨h,q⟩
      ·have HB1 : Hid ((!Mk.allowedB n || (n == [105,109,103] && !Mk.hasAt a [115,114,99]) || !Mk.safeF kk) = (!true || (true && !bh) || !bs)):=by show _ = _;rw [HB0.out,q]
       clear h
       cases bh with
       | false =>
        go_wp2_with fail
        refine HHS2.out.mono ?_
        rintro e w9 ⟨rfl,hw9⟩
        subst w9
        go_wp2_with fail
        go_meet
        case rel=>exact ⟨by (rw [HB1.out]) <;> rfl,BX2⟩
       | true =>
        go_wp2_with fail
        refine HHS2.out.mono ?_
        rintro e w9 ⟨rfl,hw9⟩
        subst w9
        clear HHS2
        go_wp2_with fail
        refine HIC2.out.mono ?_
        rintro e w3 ⟨rfl,hb3⟩
        have BX3:=Lib.hid (BX2.out.trans (hb3.mono BX2.out.size))
        clear hb3 HIC2
        go_wp2_with fail
        go_meet
        case rel=>exact ⟨by (rw [HB1.out]) <;> (cases bs <;> rfl),BX3⟩
      ·have HB1 : Hid ((!Mk.allowedB n || (n == [105,109,103] && !Mk.hasAt a [115,114,99]) || !Mk.safeF kk) = (!true || (false && !bh) || !bs)):=by show _ = _;rw [HB0.out,q]
       clear h HHS2
       go_wp2_with fail
       refine HIC2.out.mono ?_
       rintro e w3 ⟨rfl,hb3⟩
       have BX3:=Lib.hid (BX2.out.trans (hb3.mono BX2.out.size))
       clear hb3 HIC2
       go_wp2_with fail
       go_meet
       case rel=>exact ⟨by (rw [HB1.out]) <;> (cases bs <;> rfl),BX3⟩
    case rest =>
    as_aux_lemma =>
    obtain ⟨rfl,BX2⟩:=hcut
    obtain ⟨w2,hw2⟩ : ∃ x,x = wc:=⟨_,rfl⟩
    subst hw2
    have BL2:=Lib.hid (BL1.out.trans (BX2.out.mono BL1.out.size))
    have e0 : w2.cell? ⟨T,0,none⟩ = some (.string (st n)):=(BX2.out.cell (p:=⟨T,0,none⟩) hTl).trans d0
    have e1 : w2.cell? ⟨T,1,none⟩ = some (.slice aoa a.length capa):=(BX2.out.cell (p:=⟨T,1,none⟩) hTl).trans d1
    have hT2 : T < w2.heap.size:=Nat.lt_of_lt_of_le hTl BX2.out.size
    clear d0 d1 d3 HIC HHS BX2 BL1
    obtain ⟨b1,hb1⟩ : ∃ b,(!Mk.allowedB n || (n == [105,109,103] && !Mk.hasAt a [115,114,99]) || !Mk.safeF kk) = b:=⟨_,rfl⟩
    rw [hb1] at HJ3 ⊢
    clear hb1
    cases b1 with
    | true =>
     have HR : Hid (Mk.safeF f = false):=by show _ = _;rw [HJ3.out];rfl
     clear HJ3
     as_aux_lemma =>
     go_wp2_with fail
     go_ret
     exact ⟨ret_bool (by rw [HR.out]),BL2.out⟩
    | false =>
     have HJ4 : Hid (Mk.safeF f = (!Mk.badAts n a && Mk.safeF (f.drop (k + 1)))):=by show _ = _;rw [HJ3.out];rfl
     clear HJ3
     as_aux_lemma =>
     go_wp2_with fail
     go_loopw [5] (fun i wr=>∃ m : Nat,m≤a.length∧i = .int .i64 (m : Int)∧Hid (Mk.badAts n (a.take m) = false)∧Hid (Below w2.heap.size w2 wr)) (fun i _=>a.length - (intOf i).toNat)
     case atStart=>exact ⟨0,Nat.zero_le _,rfl,rfl,Below.refl _ _⟩
     case round =>
      obtain ⟨m,hm,rfl,HM,BE⟩:=hrel
      have f1 : wr.cell? ⟨T,1,none⟩ = some (.slice aoa a.length capa):=(BE.out.cell (p:=⟨T,1,none⟩) hT2).trans e1
      by_cases hmt : m < a.length
      ·have HXW:=Lib.hid (BL2.out.trans (BE.out.mono BL2.out.size))
       obtain ⟨ao6,cap6,hz1,_,hz2⟩:=((HFV.out wr HXW.out).2.1).get
       injection hz1 with hz3 _ hz4
       subst hz3
       subst hz4
       obtain ⟨g6,o6,hao6,_,s0,s1⟩:=hz2 m hmt
       subst hao6
       have hxv:=HAV.out a[m] (List.getElem_mem hmt)
       have HBT:=Lib.hid (Mk.badAts_take n a m hmt)
       obtain ⟨x,hx⟩ : ∃ x,a[m] = x:=⟨_,rfl⟩
       rw [hx] at s0 s1 hxv HBT
       have hmi : (m : Int) < a.length:=by omega
       have hm0 : (0 : Int)≤m:=by omega
       have hal7:=(Below.refl wr.heap.size wr).alloc (Nat.le_refl _) (.cells #[.string (st x.n),.string (st x.v)] 58)
       have QB:=Lib.hid (Blk.new wr 58 #[.string (st x.n),.string (st x.v)])
       have BE7:=Lib.hid (BE.out.trans (hal7.mono BE.out.size))
       clear hx hz2 hal7 HXW
       go_upto_region 12 with fail
       generalize (wr.alloc (.cells #[.string (st x.n),.string (st x.v)] 58)) = w7 at QB BE7 ⊢
       generalize wr.heap.size = Q at QB ⊢
       clear s0 s1 f1 BE
       have u0 : w7.cell? ⟨T,0,none⟩ = some (.string (st n)):=(BE7.out.cell (p:=⟨T,0,none⟩) hT2).trans e0
       have v0 : w7.cell? ⟨Q,0,none⟩ = some (.string (st x.n)):=Blk.cell QB.out 0
       have v1 : w7.cell? ⟨Q,1,none⟩ = some (.string (st x.v)):=Blk.cell QB.out 1
       go_cut [79] (fun b wx=>b = .bool (Mk.badB n x)∧Hid (Below w7.heap.size w7 wx))
       case first =>
        as_aux_lemma =>
        have HMH:=Lib.hid (rf_mayHave n x.n w7)
        have HSF:=Lib.hid (ref_IsSafe (st x.v) w7 (by rw [st_size];omega))
        have HLG:=Lib.hid (fun W=>rf_IsLong x.v W)
        obtain ⟨bm,hbm⟩ : ∃ b,Mk.mayB n x.n = b:=⟨_,rfl⟩
        rw [hbm] at HMH
        obtain ⟨bs,hbs⟩ : ∃ b,Mg.isSafe x.v = b:=⟨_,rfl⟩
        rw [bs_st,hbs] at HSF
        obtain ⟨bg,hbg⟩ : ∃ b,decide (3000 < x.v.length) = b:=⟨_,rfl⟩
        have HLG2 : Hid (∀ W,Calls Tryz.prog 37 #[.string (st x.v)] W fun e w'=>e = .returned (.bool bg)∧w' = W):=fun W=>by have:=HLG.out W;rw [hbg] at this;exact this
        have HGL : Hid (Mk.goodLink x.v = (bs && !bg)):=by
         show _ = _
         unfold Mk.goodLink
         rw [hbs,← hbg,show decide (x.v.length≤3000) = !decide (3000 < x.v.length) from by rw [Bool.eq_iff_iff];simp]
        have HBB : Hid (Mk.badB n x = (!bm || ((x.n == [104,114,101,102] || x.n == [115,114,99]) && !(bs && !bg)))):=by
         show _ = _
         unfold Mk.badB
         rw [hbm,HGL.out];rfl
        clear HLG hbm hbs hbg HGL HJ4 HBT HM
        go_wp2_with fail
        refine HMH.out.mono ?_
        rintro e w9 ⟨rfl,hw9⟩
        subst w9
        clear HMH u0
        cases bm with
        | false =>
         go_wp2_with fail
         go_meet
         case rel=>exact ⟨by (rw [HBB.out]) <;> rfl,Below.refl _ _⟩
        | true =>
         have key : ∀ bl : Bool,(x.n == [104,114,101,102] || x.n == [115,114,99]) = bl→True:=fun _ _=>trivial
         clear key
         rcases name_cases x.n [104,114,101,102] with ⟨h,q1⟩ | ⟨h,q1⟩
         ·rw [q1] at HBB
          clear h
          go_wp2_with fail
          refine HSF.out.mono ?_
          rintro e w10 ⟨rfl,hb10⟩
          have z1 : w10.cell? ⟨Q,1,none⟩ = some (.string (st x.v)):=(hb10.cell (p:=⟨Q,1,none⟩) (Blk.lt QB.out)).trans v1
          have BX10:=Lib.hid hb10
          clear HSF hb10 v1 v0
          cases bs with
          | false =>
           go_wp2_with fail
           go_meet
           case rel=>exact ⟨by (rw [HBB.out]) <;> rfl,BX10⟩
          | true =>
           go_wp2_with fail
           refine (HLG2.out _).mono ?_
           rintro e w11 ⟨rfl,hw11⟩
           subst w11
           go_wp2_with fail
           go_meet
           case rel=>exact ⟨by (rw [HBB.out]) <;> (cases bg <;> rfl),BX10⟩
         rcases name_cases x.n [115,114,99] with ⟨h2,q2⟩ | ⟨h2,q2⟩
         ·rw [q1,q2] at HBB
          clear h h2
          go_wp2_with fail
          refine HSF.out.mono ?_
          rintro e w10 ⟨rfl,hb10⟩
          have z1 : w10.cell? ⟨Q,1,none⟩ = some (.string (st x.v)):=(hb10.cell (p:=⟨Q,1,none⟩) (Blk.lt QB.out)).trans v1
          have BX10:=Lib.hid hb10
          clear HSF hb10 v1 v0
          cases bs with
          | false =>
           go_wp2_with fail
           go_meet
           case rel=>exact ⟨by (rw [HBB.out]) <;> rfl,BX10⟩
          | true =>
           go_wp2_with fail
           refine (HLG2.out _).mono ?_
           rintro e w11 ⟨rfl,hw11⟩
           subst w11
           go_wp2_with fail
           go_meet
           case rel=>exact ⟨by (rw [HBB.out]) <;> (cases bg <;> rfl),BX10⟩
         ·rw [q1,q2] at HBB
          clear h h2
          go_wp2_with fail
          go_meet
          case rel=>exact ⟨by (rw [HBB.out]) <;> rfl,Below.refl _ _⟩
       case rest =>
       as_aux_lemma =>
       obtain ⟨rfl,BX8⟩:=hcut
       obtain ⟨w8,hw8⟩ : ∃ x,x = wc:=⟨_,rfl⟩
       subst hw8
       have BE8:=Lib.hid (BE7.out.trans (BX8.out.mono BE7.out.size))
       clear BX8 BE7 u0 v0 v1 QB
       obtain ⟨b2,hb2⟩ : ∃ b,Mk.badB n x = b:=⟨_,rfl⟩
       rw [hb2] at HBT ⊢
       clear hb2
       cases b2 with
       | true =>
        have HR : Hid (Mk.safeF f = false):=by show _ = _;rw [HJ4.out,Mk.badAts_mono n a (m + 1) (by rw [HBT.out,HM.out];rfl)];rfl
        have BF:=Lib.hid (BL2.out.trans (BE8.out.mono BL2.out.size))
        clear HJ4 HBT HM
        go_wp2_with fail
        go_ret
        exact ⟨ret_bool (by rw [HR.out]),BF.out⟩
       | false =>
        have HM2 : Hid (Mk.badAts n (a.take (m + 1)) = false):=by show _ = _;rw [HBT.out,HM.out];rfl
        clear HBT HM HJ4
        go_wp2_with fail
        go_roundw
        case rel=>exact ⟨m + 1,by omega,by go_num,HM2,BE8⟩
        case measure=>simp [intOf];omega
      ·have HR : Hid (Mk.safeF f = Mk.safeF (f.drop (k + 1))):=by
        have:=HM.out
        rw [List.take_of_length_le (by omega)] at this
        show _ = _
        rw [HJ4.out,this];rfl
       have BF:=Lib.hid (BL2.out.trans (BE.out.mono BL2.out.size))
       have hmi : ¬ (m : Int) < a.length:=by omega
       clear HJ4 HM
       as_aux_lemma =>
       go_wp2_with fail
       go_roundw
       case rel=>exact ⟨k + 1,by omega,by go_num,HR,BF⟩
       case measure=>simp [intOf];omega
   ·have HE : Hid (Mk.safeF f = true):=by show _ = _;rw [HJ.out,show k = f.len by omega,Mk.Fo.drop_len];rfl
    have hki : ¬ (k : Int) < f.len:=by omega
    clear HJ HV
    as_aux_lemma =>
    go_wp2_with fail
    go_ret
    exact ⟨ret_bool (by rw [HE.out]),BL.out⟩
end Go.Proofs.YteidgdpaolieaaaGreatDoor
