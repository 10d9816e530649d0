/- Contract of the token reader's method value. Condition: a text of at most 1048576 bytes. -/
import Derived.Test.YteidgdpaolieaaaGreatDoorYMkTok1
import Derived.ChangeAlike
import Derived.Test.YteidgdpaolieaaaGreatDoorProg
import Derived.Conc.MuLone
import Derived.WalkKit
import Derived.Deep.CutBlock
import Derived.Deep.DeepCutAuto
import Derived.Test.YteidgdpaolieaaaGreatDoorYMkTaken
import Derived.Deep.RegionHeld3
set_option linter.unusedVariables false
set_option linter.unusedSimpArgs false
namespace Mk
theorem drop_takeWhile (q : UInt8→Bool) : ∀ l : Bs,l.drop (l.takeWhile q).length = l.dropWhile q
 | []=>rfl
 | c :: t=>by
  rw [List.takeWhile_cons,List.dropWhile_cons]
  cases q c with
  | true=>simpa using drop_takeWhile q t
  | false=>rfl
theorem takeWhile_le (q : UInt8→Bool) (l : Bs) : (l.takeWhile q).length≤l.length:=(List.takeWhile_sublist q).length_le
def quoteB (c : UInt8) : Bool:=c == 34 || c == 39
def bareB (c : UInt8) : Bool:=!white c && c != 62
theorem valueOf_bare (r : Bs) (h : headIs quoteB (r.dropWhile white) = false) : valueOf r = some ((r.dropWhile white).takeWhile bareB,(r.dropWhile white).dropWhile bareB):=by
 unfold valueOf
 cases hd : r.dropWhile white with
 | nil=>rfl
 | cons q t =>
  rw [hd] at h
  have hq : quoteB q = false:=h
  have : ¬ (q = 34 ∨ q = 39):=by
   intro e
   unfold quoteB at hq
   rcases e with rfl | rfl <;> cases hq
  simp only [if_neg this]
  rfl
theorem valueOf_quote (r : Bs) (q : UInt8) (t : Bs) (hd : r.dropWhile white = q :: t) (h : quoteB q = true) : valueOf r = (match t.dropWhile (· != q) with | []=>none | _ :: u=>some (t.takeWhile (· != q),u)):=by
 unfold valueOf
 rw [hd]
 have : q = 34 ∨ q = 39:=by unfold quoteB at h;simpa using h
 simp only [if_pos this]
 rfl
end Mk
namespace Go.Proofs.YteidgdpaolieaaaGreatDoor
open Go.RowKit
theorem Moved.ap {R : Nat} {w w' : World} (h : Moved R w w') : Ap (fun b=>b = R) w w':=⟨h.os,h.tape,h.output,by rw [h.size];exact Nat.le_refl _,fun k _ hk=>h.block k hk⟩
section
variable {w : World} {R : Nat} {s : ByteArray} {k : Nat} {tx : List UInt8} {ov : Value}
theorem Rd.ap_far {S : Nat→Prop} {w' : World} (h : Rd w R s k tx ov) (ha : Ap S w w') (hS : ¬ S R) : Rd w' R s k tx ov:=(ha.block R (Blk.lt h) hS).trans h
theorem adv (s : ByteArray) (k : Nat) (q : UInt8→Bool) : s.data.toList.drop (k + ((s.data.toList.drop k).takeWhile q).length) = (s.data.toList.drop k).dropWhile q:=by
 rw [← List.drop_drop,Mk.drop_takeWhile]
theorem adv_le (s : ByteArray) (k : Nat) (hk : k≤s.size) (q : UInt8→Bool) : k + ((s.data.toList.drop k).takeWhile q).length≤s.size:=by
 have:=Mk.takeWhile_le q (s.data.toList.drop k)
 rw [List.length_drop,bs_len] at this;omega

set_option maxHeartbeats 1000000 in
theorem rd_value_bare (h : Rd w R s k tx ov) (hk : k≤s.size) (hs : s.size≤1048576) (hq : Mk.headIs Mk.quoteB ((s.data.toList.drop k).dropWhile Mk.white) = false) :
  Calls Tryz.prog 194 #[.pointer (some ⟨R,0,none⟩)] w fun e w'=>∃ v r j,Mk.valueOf (s.data.toList.drop k) = some (v,r)∧e = .returned (.string (st v))∧j≤s.size∧k≤j∧r = s.data.toList.drop j∧Rd w' R s j tx ov∧Ap (fun b=>b = R) w w':=by
 have HV:=Lib.hid (Mk.valueOf_bare _ hq)
 have e1:=adv s k Mk.white
 have l1:=adv_le s k hk Mk.white
 rw [← e1] at hq HV
 obtain ⟨k1,hk1⟩ : ∃ k1,k1 = k + ((s.data.toList.drop k).takeWhile Mk.white).length:=⟨_,rfl⟩
 rw [← hk1] at hq HV l1
 have HP:=Lib.hid (rd_pass 178 #[] Mk.white eg_White h hk hs (fun w' _=>asks_White w'))
 rw [← hk1] at HP
 have hkk : k≤k1:=by omega
 have e2:=adv s k1 Mk.bareB
 have l2:=adv_le s k1 l1 Mk.bareB
 rw [← e2] at HV
 clear e1 e2 hk1
 go_enter Tryz.func194,Tryz.ntmps194
 go_wp2_with fail
 refine HP.out.mono ?_
 rintro e w1 ⟨rfl,RD,MV⟩
 have HH:=Lib.hid (rd_here 202 #[] Mk.quoteB eg_value1 RD (fun n=>asks_value1 _))
 rw [hq] at HH
 go_wp2_with fail
 refine HH.out.mono ?_
 rintro e w2 ⟨rfl,n,rfl⟩
 go_wp2_with fail
 refine (rd_pass 204 #[] Mk.bareB eg_value3 (RD.drewN n) l1 hs (fun w' _=>asks_value3 w')).mono ?_
 rintro e w3 ⟨rfl,RD3,MV3⟩
 go_wp2_with fail
 go_ret
 exact ⟨_,_,_,HV.out,rfl,l2,by omega,rfl,RD3,((MV.drewN n).trans MV3).ap⟩

set_option maxHeartbeats 1000000 in
theorem rd_value_quote (h : Rd w R s k tx ov) (hk : k≤s.size) (hs : s.size≤1048576) (hq : Mk.headIs Mk.quoteB ((s.data.toList.drop k).dropWhile Mk.white) = true) :
  Calls Tryz.prog 194 #[.pointer (some ⟨R,0,none⟩)] w fun e w' =>
   (Mk.valueOf (s.data.toList.drop k) = none∧e = Gave∧(∃ j,Rd w' R s j tx ov)∧Ap (fun b=>b = R) w w') ∨
   ∃ v r j,Mk.valueOf (s.data.toList.drop k) = some (v,r)∧e = .returned (.string (st v))∧j≤s.size∧k≤j∧r = s.data.toList.drop j∧Rd w' R s j tx ov∧Ap (fun b=>b = R) w w':=by
 have e1:=adv s k Mk.white
 have l1:=adv_le s k hk Mk.white
 obtain ⟨k1,hk1⟩ : ∃ k1,k1 = k + ((s.data.toList.drop k).takeWhile Mk.white).length:=⟨_,rfl⟩
 rw [← hk1] at e1 l1
 rw [← e1] at hq
 have hlt : k1 < s.size:=by
  rcases Nat.lt_or_ge k1 s.size with h1 | h1
  ·exact h1
  ·rw [List.drop_of_length_le (by simp;omega)] at hq;cases hq
 have hqb : Mk.quoteB s[k1] = true:=by rw [bs_drop s k1 hlt] at hq;exact hq
 have HV:=Lib.hid (Mk.valueOf_quote (s.data.toList.drop k) s[k1] (s.data.toList.drop (k1 + 1)) (by rw [← e1,bs_drop s k1 hlt]) hqb)
 have HP:=Lib.hid (rd_pass 178 #[] Mk.white eg_White h hk hs (fun w' _=>asks_White w'))
 rw [← hk1] at HP
 have hkk : k≤k1:=by omega
 obtain ⟨d,hde⟩ : ∃ d : UInt8,s[k1] = d:=⟨_,rfl⟩
 rw [hde] at HV
 have HDE:=Lib.hid hde
 have e2:=adv s (k1 + 1) (fun c=>c != d)
 have l2:=adv_le s (k1 + 1) hlt (fun c=>c != d)
 obtain ⟨k2,hk2⟩ : ∃ k2,k2 = k1 + 1 + ((s.data.toList.drop (k1 + 1)).takeWhile (fun c=>c != d)).length:=⟨_,rfl⟩
 rw [← hk2] at e2 l2
 rw [← e2] at HV
 have hkk2 : k1 + 1≤k2:=by omega
 have HK2:=Lib.hid hk2
 clear e1 e2 hk1 hk2 hqb hde
 go_enter Tryz.func194,Tryz.ntmps194
 go_wp2_with fail
 refine HP.out.mono ?_
 rintro e w1 ⟨rfl,RD,MV⟩
 have HH:=Lib.hid (rd_here 202 #[] Mk.quoteB eg_value1 RD (fun n=>asks_value1 _))
 rw [hq] at HH
 go_wp2_with fail
 refine HH.out.mono ?_
 rintro e w2 ⟨rfl,n,rfl⟩
 go_wp2_with fail
 have hn:=rd_need_in (RD.drewN n) hlt hs
 rw [HDE.out] at hn
 refine hn.mono ?_
 rintro e w3 ⟨rfl,RD3,MV3⟩
 have hb : (d.toNat : Int)≤255:=by have:=d.toNat_lt;omega
 go_wp2_with fail
 have QB:=Blk.new w3 5 #[.int .u8 (d.toNat : Int)]
 have AP4:=(((MV.drewN n).trans MV3).ap).alloc (.cells #[.int .u8 (d.toNat : Int)] 5)
 have RD4 : Rd (w3.alloc (.cells #[.int .u8 (d.toNat : Int)] 5)) R s (k1 + 1) tx ov:=Blk.alloc RD3 _
 have hQR : w3.heap.size ≠ R:=by have:=Blk.lt RD3;omega
 change Calls _ _ _ (w3.alloc (.cells #[.int .u8 (d.toNat : Int)] 5)) _
 generalize w3.alloc (.cells #[.int .u8 (d.toNat : Int)] 5) = w4 at QB AP4 RD4 ⊢
 generalize w3.heap.size = Q at QB hQR ⊢
 have hp:=rd_pass 203 #[.pointer (some ⟨Q,0,none⟩)] (fun c=>c != d) eg_value2 RD4 hlt hs (fun w' hm=>asks_value2 Q d w' ((cell_of_block (hm.block Q hQR) 0).trans (QB.cell 0)))
 rw [← HK2.out] at hp
 refine hp.mono ?_
 rintro e w5 ⟨rfl,RD5,MV5⟩
 have AP5:=AP4.trans MV5.ap
 clear hp QB AP4 RD4 MV5 RD3 MV3 hn RD MV HP HH
 rcases Nat.lt_or_ge k2 s.size with h2 | h2
 ·rw [bs_drop s k2 h2] at HV
  go_wp2_with fail
  refine (rd_need_in RD5 h2 hs).mono ?_
  rintro e w6 ⟨rfl,RD6,MV6⟩
  go_wp2_with fail
  go_ret
  exact .inr ⟨_,_,_,HV.out,rfl,h2,by omega,rfl,RD6,AP5.trans MV6.ap⟩
 ·rw [show s.data.toList.drop k2 = [] from List.drop_of_length_le (by simp;omega)] at HV
  go_wp2_with fail
  refine (rd_need_end RD5 (by omega)).mono ?_
  rintro e w6 ⟨rfl,RD6,MV6⟩
  go_wp2_with fail
  exact ⟨rfl,.inl ⟨HV.out,rfl,⟨_,RD6⟩,AP5.trans MV6.ap⟩⟩
theorem rd_value (h : Rd w R s k tx ov) (hk : k≤s.size) (hs : s.size≤1048576) :
  Calls Tryz.prog 194 #[.pointer (some ⟨R,0,none⟩)] w fun e w' =>
   (Mk.valueOf (s.data.toList.drop k) = none∧e = Gave∧(∃ j,Rd w' R s j tx ov)∧Ap (fun b=>b = R) w w') ∨
   ∃ v r j,Mk.valueOf (s.data.toList.drop k) = some (v,r)∧e = .returned (.string (st v))∧j≤s.size∧k≤j∧r = s.data.toList.drop j∧Rd w' R s j tx ov∧Ap (fun b=>b = R) w w':=by
 cases hq : Mk.headIs Mk.quoteB ((s.data.toList.drop k).dropWhile Mk.white) with
 | false=>exact (rd_value_bare h hk hs hq).mono fun _ _ hh=>.inr hh
 | true=>exact rd_value_quote h hk hs hq
end
end Go.Proofs.YteidgdpaolieaaaGreatDoor

/- Contracts of slices.IndexFunc and slices.ContainsFunc over attributes, for whatever closure only computes. -/
namespace Go.Proofs.YteidgdpaolieaaaGreatDoor
open Go.RowKit
def atV (a : Mk.At) : Value:=.agg #[.string (st a.n),.string (st a.v)]
/-- what a closure on attributes answers, in worlds that have grown: it only computes. -/
def AsksA (g : FuncId) (lb : Array Value) (q : Mk.At→Bool) (l : List Mk.At) (w : World) : Prop :=
 ∀ w1,Below w.heap.size w w1→∀ a,a ∈ l→Calls Tryz.prog g (#[atV a]++lb) w1 fun e w'=>e = .returned (.bool (q a))∧Below w1.heap.size w1 w'
theorem atCells_get (l : List Mk.At) (k : Nat) (h : k < l.length) : (atCells l)[2 * k]? = some (.string (st l[k].n))∧(atCells l)[2 * k + 1]? = some (.string (st l[k].v)):=by
 induction l generalizing k with
 | nil=>simp at h
 | cons a t ih =>
  cases k with
  | zero=>exact ⟨rfl,rfl⟩
  | succ k =>
   have h' : k < t.length:=by simpa using h
   have e : atCells (a :: t) = [.string (st a.n),.string (st a.v)]++atCells t:=rfl
   rw [e,show 2 * (k + 1) = 2 * k + 2 by omega]
   obtain ⟨h1,h2⟩:=ih k h'
   exact ⟨by rw [List.getElem?_append_right (by simp)];simpa using h1,by rw [List.getElem?_append_right (by simp)];simpa using h2⟩
theorem atCells_len (l : List Mk.At) : (atCells l).length = l.length * 2:=by
 induction l with
 | nil=>rfl
 | cons a t ih=>rw [show atCells (a :: t) = [.string (st a.n),.string (st a.v)]++atCells t from rfl,List.length_append,ih,List.length_cons];simp;omega
/-- where an attribute lies. -/
theorem AtsV.at_ {w : World} {K : Nat→Prop} {v : Value} {l : List Mk.At} (h : AtsV w K v l) : ∃ g o cap,(l ≠ []→K g)∧(v = .slice (some ⟨g,o,none⟩) l.length cap ∨ ∃ ao,v = .slice ao 0 cap∧l = [])∧∀ k (hk : k < l.length),w.cell? ⟨g,o + k * 2,none⟩ = some (.string (st l[k].n))∧w.cell? ⟨g,o + k * 2 + 1,none⟩ = some (.string (st l[k].v)):=by
 obtain ⟨ao,cap,h1,h2,_⟩:=h
 rcases h2 with h2 | ⟨g,o,h3,h4,h5⟩
 ·have : l = []:=List.eq_nil_of_length_eq_zero (by have:=atCells_len l;rw [h2] at this;simp at this;omega)
  subst this
  exact ⟨0,0,cap,fun h=>absurd rfl h,.inr ⟨ao,h1,rfl⟩,fun k hk=>absurd hk (Nat.not_lt_zero _)⟩
 ·refine ⟨g,o,cap,fun _=>h4,.inl (by rw [h1,h3]),fun k hk=>?_⟩
  obtain ⟨e1,e2⟩:=atCells_get l k hk
  rw [Nat.mul_comm k 2]
  exact ⟨h5 _ _ e1,by rw [Nat.add_assoc];exact h5 _ _ e2⟩

set_option maxHeartbeats 1000000 in
theorem sl_IndexFunc (g : FuncId) (lb : Array Value) (q : Mk.At→Bool) (eg : ∀ args w,(callFunc g args).run Tryz.prog w = .ok (.enter g args) w) (l : List Mk.At) (v : Value) (K : Nat→Prop) (w : World) (hv : AtsV w K v l) (hK : ∀ b,K b→b < w.heap.size) (hl : l.length≤33554432) (hq : AsksA g lb q l w) :
  Calls Tryz.prog 100 #[v,.func (.func g) #[] lb] w fun e w'=>∃ i : Int,e = .returned (.int .i64 i)∧(decide (0≤i) = l.any q)∧Below w.heap.size w w':=by
 obtain ⟨b,o,cap,hKb,hv1,hcl⟩:=hv.at_
 have HQ:=Lib.hid hq
 have HC:=Lib.hid hcl
 clear hq hcl
 rcases hv1 with hv1 | ⟨ao,hv1,hl0⟩
 ·subst hv1
  go_enter Tryz.func100,Tryz.ntmps100
  go_wp2_with fail
  go_loopw [8] (fun i wr=>∃ k : Nat,k≤l.length∧i = .int .i64 k∧Hid (l.any q = (l.drop k).any q)∧Hid (Below w.heap.size w wr)) (fun i _=>l.length - (intOf i).toNat)
  case atStart=>exact ⟨0,Nat.zero_le _,rfl,rfl,Below.refl _ _⟩
  case round =>
   obtain ⟨k,hk,rfl,HA,BL⟩:=hrel
   by_cases hlt : k < l.length
   ·have hb : b < w.heap.size:=hK b (hKb (by intro e;subst e;simp at hlt))
    obtain ⟨c0,c1⟩:=HC.out k hlt
    rw [← BL.out.cell (p:=⟨b,_,none⟩) hb] at c0 c1
    have hcall:=HQ.out wr BL.out l[k] (List.getElem_mem _)
    have HD : Hid (l.any q = (q l[k] || (l.drop (k + 1)).any q)):=by show _ = _;rw [HA.out,List.drop_eq_getElem_cons hlt];rfl
    generalize q l[k] = bb at hcall HD
    unfold atV at hcall
    have HCALL:=Lib.hid hcall
    clear hcall
    cases bb with
    | true =>
     go_wp2_with fail
     refine HCALL.out.mono ?_
     rintro e w1 ⟨rfl,hb1⟩
     have BL1:=BL.out.trans (hb1.mono BL.out.size)
     go_wp2_with fail
     go_ret
     exact ⟨k,rfl,by rw [HD.out,Bool.true_or];simp,BL1⟩
    | false =>
     go_wp2_with fail
     refine HCALL.out.mono ?_
     rintro e w1 ⟨rfl,hb1⟩
     have BL1:=BL.out.trans (hb1.mono BL.out.size)
     go_wp2_with fail
     go_roundw
     case rel=>exact ⟨k + 1,by omega,by go_num,by show _ = _;rw [HD.out,Bool.false_or],BL1⟩
     case measure=>simp [intOf];omega
   ·have HN : Hid (l.any q = false):=by show _ = _;rw [HA.out,List.drop_of_length_le (by omega)];rfl
    have hkl : k = l.length:=by omega
    clear HA
    go_wp2_with fail
    go_ret
    exact ⟨-1,rfl,by rw [HN.out];rfl,BL.out⟩
 ·subst hl0
  subst hv1
  clear HC hK
  go_enter Tryz.func100,Tryz.ntmps100
  go_wp2_with fail
  go_loopw [8] (fun i wr=>i = .int .i64 0∧wr = w) (fun _ _=>0)
  case atStart=>exact ⟨rfl,rfl⟩
  case round =>
   obtain ⟨rfl,rfl⟩:=hrel
   go_wp2_with fail
   go_ret
   exact ⟨-1,rfl,rfl,Below.refl _ _⟩
set_option maxHeartbeats 1000000 in
theorem sl_ContainsFunc (g : FuncId) (lb : Array Value) (q : Mk.At→Bool) (eg : ∀ args w,(callFunc g args).run Tryz.prog w = .ok (.enter g args) w) (l : List Mk.At) (v : Value) (K : Nat→Prop) (w : World) (hv : AtsV w K v l) (hK : ∀ b,K b→b < w.heap.size) (hl : l.length≤33554432) (hq : AsksA g lb q l w) :
  Calls Tryz.prog 59 #[v,.func (.func g) #[] lb] w fun e w'=>e = .returned (.bool (l.any q))∧Below w.heap.size w w':=by
 have HI:=Lib.hid (sl_IndexFunc g lb q eg l v K w hv hK hl hq)
 clear hq hK hv
 go_enter Tryz.func59,Tryz.ntmps59
 go_wp2_with fail
 refine HI.out.mono ?_
 rintro e w1 ⟨i,rfl,hi,hb⟩
 have HB:=Lib.hid hb
 have H2:=Lib.hid hi
 clear hb hi
 go_wp2_with fail
 go_ret
 exact ⟨ret_bool H2.out,HB.out⟩
end Go.Proofs.YteidgdpaolieaaaGreatDoor

/- Contract of the token reader's method attrs. Condition: a text of at most 1048576 bytes. -/
namespace Mk
def sepB (c : UInt8) : Bool:=white c || c == 47
theorem dropWhile_le (q : UInt8→Bool) (l : Bs) : (l.dropWhile q).length≤l.length:=(List.dropWhile_sublist q).length_le
theorem valueOf_le {r v u : Bs} (h : valueOf r = some (v,u)) : u.length≤r.length:=by
 have h0:=dropWhile_le white r
 unfold valueOf at h
 split at h
 ·injection h with h;injection h with h1 h2;subst h2;exact Nat.zero_le _
 ·rename_i q t hd
  rw [hd] at h0
  split at h
  ·split at h
   ·cases h
   ·rename_i x u' hu
    injection h with h;injection h with h1 h2;subst h2
    have:=dropWhile_le (· != q) t
    rw [hu] at this
    simp at this h0
    omega
  ·injection h with h;injection h with h1 h2;subst h2
   exact Nat.le_trans (dropWhile_le _ _) h0
theorem valueOf_v_le {r v u : Bs} (h : valueOf r = some (v,u)) : v.length≤r.length:=by
 have h0:=dropWhile_le white r
 unfold valueOf at h
 split at h
 ·injection h with h;injection h with h1 h2;subst h1;exact Nat.zero_le _
 ·rename_i q t hd
  rw [hd] at h0
  split at h
  ·split at h
   ·cases h
   ·injection h with h;injection h with h1 h2;subst h1
    have:=takeWhile_le (· != q) t
    simp at this h0 ⊢
    omega
  ·injection h with h;injection h with h1 h2;subst h1
   exact Nat.le_trans (takeWhile_le _ _) h0
/-- what comes behind a name: a value, if there is one. -/
def restOf (r3 : Bs) : Option (Bs × Bs):=if Mg.isAt 61 r3 then (valueOf r3.tail).map (fun x=>((take x.1).1,x.2)) else some ([],r3)
theorem restOf_le {r v u : Bs} (h : restOf r = some (v,u)) : u.length≤r.length:=by
 unfold restOf at h
 split at h
 ·cases hv : valueOf r.tail with
  | none=>rw [hv] at h;cases h
  | some x =>
   rw [hv] at h
   injection h with h
   have h1 : x.2 = u:=congrArg Prod.snd h
   have h2:=valueOf_le (v:=x.1) (u:=x.2) hv
   rw [h1,List.length_tail] at h2
   omega
 ·injection h with h;injection h with h1 h2;subst h2;exact Nat.le_refl _
def nextAts (nm v : Bs) (out : List At) : List At:=if isName nm && !hasAt out nm then out++[⟨nm,v⟩] else out
theorem attrsN_succ (n : Nat) (r : Bs) (out : List At) : attrsN (n + 1) r out = (match r.dropWhile sepB with
  | []=>none
  | c :: t=>if c = 62 then some (out,t) else
   match restOf ((t.dropWhile atStop).dropWhile white) with
   | none=>none
   | some (v,r4)=>attrsN n r4 (nextAts (Mg.fold (c :: t.takeWhile atStop)) v out)):=by
 rfl
theorem attrsN_fuel : ∀ (n m : Nat) (r : Bs) (out : List At),r.length < n→r.length < m→attrsN n r out = attrsN m r out:=by
 intro n
 induction n with
 | zero=>intro m r out h _;omega
 | succ n ih =>
  intro m r out h hm
  cases m with
  | zero=>omega
  | succ m =>
   rw [attrsN_succ,attrsN_succ]
   have h0:=dropWhile_le sepB r
   cases hd : r.dropWhile sepB with
   | nil=>rfl
   | cons c t =>
    rw [hd,List.length_cons] at h0
    simp only
    split
    ·rfl
    cases hr : restOf ((t.dropWhile atStop).dropWhile white) with
    | none=>rfl
    | some x =>
     obtain ⟨v,r4⟩:=x
     have h1:=restOf_le hr
     have h2:=dropWhile_le white (t.dropWhile atStop)
     have h3:=dropWhile_le atStop t
     exact ih m r4 _ (by omega) (by omega)
def attrsR (r : Bs) (out : List At) : Option (List At × Bs):=attrsN (r.length + 1) r out
theorem attrsR_eq (r : Bs) (out : List At) : attrsR r out = (match r.dropWhile sepB with
  | []=>none
  | c :: t=>if c = 62 then some (out,t) else
   match restOf ((t.dropWhile atStop).dropWhile white) with
   | none=>none
   | some (v,r4)=>attrsR r4 (nextAts (Mg.fold (c :: t.takeWhile atStop)) v out)):=by
 unfold attrsR
 rw [attrsN_succ]
 have h0:=dropWhile_le sepB r
 cases hd : r.dropWhile sepB with
 | nil=>rfl
 | cons c t =>
  rw [hd,List.length_cons] at h0
  simp only
  split
  ·rfl
  cases hr : restOf ((t.dropWhile atStop).dropWhile white) with
  | none=>rfl
  | some x =>
   obtain ⟨v,r4⟩:=x
   have h1:=restOf_le hr
   have h2:=dropWhile_le white (t.dropWhile atStop)
   have h3:=dropWhile_le atStop t
   exact attrsN_fuel _ _ r4 _ (by omega) (by omega)
end Mk
namespace Go.Proofs.YteidgdpaolieaaaGreatDoor
open Go.RowKit
theorem asks_attrs4 (P : Nat) (nm : List UInt8) (l : List Mk.At) (w : World) (hP : P < w.heap.size) (hc : w.cell? ⟨P,0,none⟩ = some (.string (st nm))) : AsksA 195 #[.pointer (some ⟨P,0,none⟩)] (fun a=>a.n == nm) l w:=by
 intro w1 hb a _
 have c0 : w1.cell? ⟨P,0,none⟩ = some (.string (st nm)):=(hb.cell (p:=⟨P,0,none⟩) hP).trans hc
 have hP1 : P < w1.heap.size:=Nat.lt_of_lt_of_le hP hb.size
 unfold atV
 go_enter Tryz.func195,Tryz.ntmps195
 go_wp2_with fail
 go_ret
 exact ⟨ret_bool (by rw [show (st a.n).toList = a.n from Lib.toList_data _,show (st nm).toList = nm from Lib.toList_data _]),(Below.refl _ w1).alloc (Nat.le_refl _) _⟩
theorem eg_attrs4 (args : Array Value) (w : World) : (callFunc 195 args).run Tryz.prog w = .ok (.enter 195 args) w:=run_callFunc_enter' Tryz.func195 (by kernel_rfl) rfl _ _
theorem Gl.ap {S : Nat→Prop} {w w' : World} (h : Gl w) (ha : Ap S w w') (h0 : ¬ S 0) (h1 : ¬ S 1) : Gl w':=by
 have hlt:=h.lt
 exact h.below (B:=2) ⟨ha.os,ha.tape,ha.output,ha.size,fun k hk=>ha.block k (by omega) (by rcases (by omega : k = 0 ∨ k = 1) with e | e <;> subst e <;> assumption)⟩ (by omega)
theorem own_ap {S : Nat→Prop} {w w' : World} {B size n : Nat} {e : TypeId} {v : Value} {xs : List Value} (h : w.ownsRow B e size v n xs) (ha : Ap S w w') (hS : ∀ g,B≤g→¬ S g) : w'.ownsRow B e size v n xs:=by
 refine ⟨h.1,h.2.imp id ?_⟩
 rintro ⟨g,cap,cur,h1,h2,h3,h4⟩
 have hlt : g < w.heap.size:=by
  rcases Nat.lt_or_ge g w.heap.size with h' | h'
  ·exact h'
  ·rw [Array.getElem?_eq_none h'] at h3;cases h3
 exact ⟨g,cap,cur,h1,h2,(ha.block g hlt (hS g h2)).trans h3,h4⟩
theorem Tryz.infoAttr : (Tryz.prog.info? 58).map (fun i=>(i.zero,i.size,i.bytes)) = some (some (.agg #[.string ⟨#[]⟩,.string ⟨#[]⟩]),2,32):=by kernel_rfl
theorem cells_new (w : World) (t : TypeId) (cs : Array Value) (j : Nat) (u : Value) (h : cs.toList[j]? = some u) : (w.alloc (.cells cs t)).cell? ((⟨w.heap.size,0,none⟩ : Addr).add j) = some u:=by
 have e1 : (⟨w.heap.size,0,none⟩ : Addr).add j = ⟨w.heap.size,j,none⟩:=by unfold Addr.add;split <;> simp_all
 rw [e1,Blk.cell (Blk.new w t cs) j,← h];simp
theorem headIs_at (l : List UInt8) : Mk.headIs (fun c=>c == 61) l = Mg.isAt 61 l:=by cases l <;> rfl
theorem Blk.ap {S : Nat→Prop} {w w' : World} {g : Nat} {t : TypeId} {cs : Array Value} (h : Blk w g t cs) (ha : Ap S w w') (hS : ¬ S g) : Blk w' g t cs:=(ha.block g h.lt hS).trans h
theorem Ap.setNew {S : Nat→Prop} {a b : World} (h : Ap S a b) {p : Addr} (hp : a.heap.size≤p.block) (v : Value) : Ap S a (b.setCell p v) :=
 ⟨h.os,h.tape,h.output,by have:=h.size;simpa [World.setCell] using this,fun k hk hs=>(Below.heap_setCell b p v k (by omega)).trans (h.block k hk hs)⟩
section
variable {w : World} {R : Nat} {s : ByteArray} {k : Nat} {tx : List UInt8} {ov : Value}
set_option maxHeartbeats 4000000 in
set_option maxRecDepth 100000 in
theorem rd_attrs (hg : Gl w) (hR : 2≤R) (h : Rd w R s k tx ov) (hk : k≤s.size) (hs : s.size≤1048576) :
  Calls Tryz.prog 179 #[.pointer (some ⟨R,0,none⟩)] w fun e w' =>
   (Mk.attrsOf (s.data.toList.drop k) = none∧e = Gave∧(∃ j,Rd w' R s j tx ov)∧Ap (fun b=>b = R) w w') ∨
   ∃ l r j v,Mk.attrsOf (s.data.toList.drop k) = some (l,r)∧e = .returned v∧w'.ownsRow w.heap.size 58 2 v l.length (atCells l)∧j≤s.size∧k < j∧l.length≤s.size∧r = s.data.toList.drop j∧Rd w' R s j tx ov∧Ap (fun b=>b = R) w w':=by
 have hRlt:=Blk.lt h
 have hglt:=hg.lt
 have hR0 : ¬ ((fun b=>b = R) 0):=by intro e;have e : (0 : Nat) = R:=e;omega
 have hR1 : ¬ ((fun b=>b = R) 1):=by intro e;have e : (1 : Nat) = R:=e;omega
 have hBR : ∀ g,w.heap.size≤g→¬ ((fun b=>b = R) g):=by intro g hg' e;have e : g = R:=e;omega
 have HBR:=Lib.hid hBR
 clear hBR
 go_enter Tryz.func179,Tryz.ntmps179
 go_wp2_with fail
 go_loopw [3] (fun o wr=>∃ j out,k≤j∧j≤s.size∧out.length≤j∧Hid (Mk.attrsOf (s.data.toList.drop k) = Mk.attrsR (s.data.toList.drop j) out)∧Hid (Rd wr R s j tx ov)∧Hid (Ap (fun b=>b = R) w wr)∧Hid (wr.ownsRow w.heap.size 58 2 o out.length (atCells out))) (fun _ wr=>s.size - atOf wr R)
 case atStart=>exact ⟨k,[],Nat.le_refl _,hk,Nat.zero_le _,rfl,h,Ap.refl _ _,World.ownsRow_nil _ _ _ _⟩
 case round =>
  obtain ⟨j,out,hkj,hj,hol,HA,RD,AP,OW⟩:=hrel
  have hatj:=RD.out.atOf
  have HATJ:=Lib.hid hatj
  clear hatj
  have hsz:=AP.out.size
  have e1:=adv s j Mk.sepB
  have l1:=adv_le s j hj Mk.sepB
  have HP:=Lib.hid (rd_pass 190 #[] Mk.sepB eg_attrs1 RD.out hj hs (fun w' _=>asks_attrs1 w'))
  obtain ⟨j1,hj1⟩ : ∃ j1,j1 = j + ((s.data.toList.drop j).takeWhile Mk.sepB).length:=⟨_,rfl⟩
  rw [← hj1] at e1 l1 HP
  have hjj1 : j≤j1:=by omega
  rw [Mk.attrsR_eq,← e1] at HA
  clear e1 hj1
  rcases Nat.lt_or_ge j1 s.size with hlt | hge
  ·rw [bs_drop s j1 hlt] at HA
   obtain ⟨c,hc⟩ : ∃ c : UInt8,s[j1] = c:=⟨_,rfl⟩
   rw [hc] at HA
   have HCC:=Lib.hid hc
   clear hc
   simp only at HA
   go_wp2_with fail
   refine HP.out.mono ?_
   rintro e w1 ⟨rfl,RD1,MV1⟩
   have AP1:=AP.out.trans MV1.ap
   have hn:=rd_need_in RD1 hlt hs
   rw [HCC.out] at hn
   have hb : (c.toNat : Int)≤255:=by have:=c.toNat_lt;omega
   by_cases h62 : c = 62
   ·subst h62
    rw [if_pos rfl] at HA
    have HN:=Lib.hid hn
    clear hn
    go_wp2_with fail
    refine HN.out.mono ?_
    rintro e w2 ⟨rfl,RD2,MV2⟩
    have OW2:=Lib.hid (own_ap (own_ap OW.out MV1.ap HBR.out) MV2.ap HBR.out)
    have AP2:=Lib.hid (AP1.trans MV2.ap)
    go_wp2_with fail
    go_ret
    exact .inr ⟨out,_,j1 + 1,_,HA.out,rfl,OW2.out,hlt,by omega,by omega,rfl,RD2,AP2.out⟩
   ·have hne : ((c.toNat : Int) == 62) = false:=by rw [beq_eq_false_iff_ne];intro e;exact h62 (UInt8.toNat_inj.1 (by show c.toNat = 62;omega))
    rw [if_neg h62] at HA
    have HN:=Lib.hid hn
    clear hn
    go_wp2_with fail
    refine HN.out.mono ?_
    rintro e w2 ⟨rfl,RD2,MV2⟩
    have d1:=RD2.c1
    go_wp2_with fail
    have e2:=adv s (j1 + 1) Mk.atStop
    have l2:=adv_le s (j1 + 1) hlt Mk.atStop
    have hp2:=rd_pass 192 #[] Mk.atStop eg_attrs2 RD2 hlt hs (fun w' _=>asks_attrs2 w')
    obtain ⟨j2,hj2⟩ : ∃ j2,j2 = j1 + 1 + ((s.data.toList.drop (j1 + 1)).takeWhile Mk.atStop).length:=⟨_,rfl⟩
    have hnm : (s.extract j1 j2).data.toList = c :: (s.data.toList.drop (j1 + 1)).takeWhile Mk.atStop:=by
     rw [extract_st,bs_st,bs_drop s j1 hlt,HCC.out,show j2 - j1 = ((s.data.toList.drop (j1 + 1)).takeWhile Mk.atStop).length + 1 by omega,List.take_succ_cons]
     congr 1
     exact (List.prefix_iff_eq_take.1 (List.takeWhile_prefix _)).symm
    rw [← hj2] at e2 l2 hp2
    have hjj2 : j1 + 1≤j2:=by omega
    rw [← e2,← hnm] at HA
    have HNM:=Lib.hid hnm
    clear e2 hj2 hnm HP HN
    refine hp2.mono ?_
    rintro e w3 ⟨rfl,RD3,MV3⟩
    have AP3:=(AP1.trans MV2.ap).trans MV3.ap
    have OW3:=Lib.hid (own_ap (own_ap (own_ap OW.out MV1.ap HBR.out) MV2.ap HBR.out) MV3.ap HBR.out)
    clear OW
    have hlt3 : R < w3.heap.size:=Blk.lt RD3
    have hsz3 : w.heap.size≤w3.heap.size:=AP3.size
    clear RD1 RD2 MV1 MV2 MV3 AP1 hp2 d1
    have d0:=RD3.c0
    have d1:=RD3.c1
    have hle1 : (j1 : Int)≤j2:=by omega
    have hle2 : (j2 : Int)≤s.size:=by omega
    have hfo:=fun W=>mk_Folded (s.extract j1 j2) W (by rw [← bs_len,extract_st,bs_st,List.length_take,List.length_drop,bs_len];omega)
    have HFO:=Lib.hid hfo
    clear hfo
    go_upto_region 7 with fail
    obtain ⟨nm,hnm⟩ : ∃ nm,Mg.fold (s.extract j1 j2).data.toList = nm:=⟨_,rfl⟩
    rw [hnm] at HA HFO
    have hnml : nm.length≤1048576:=by
     have:=HNM.out
     rw [← hnm,Mg.fold,List.length_map,extract_st,bs_st,List.length_take,List.length_drop,bs_len];omega
    clear HNM hnm
    go_cut [5] (fun p wx=>∃ P,p = .pointer (some ⟨P,0,none⟩)∧w.heap.size≤P∧u3.ownBlock ≠ some P∧Hid (wx.ownsRow w.heap.size 58 2 u3 out.length (atCells out))∧Hid (Blk wx P 58 #[.string (st nm),.string ⟨#[]⟩])∧Hid (Ap (fun b=>b = R) w wx)∧Hid (Rd wx R s j2 tx ov))
    case first =>
     have hk2 : ∀ W,Below (R + 1) w3.drew W→W.cell? ⟨R,0,none⟩ = some (.string s)∧W.cell? ⟨R,1,none⟩ = some (.int .i64 j2):=fun W hW=>⟨(hW.cell (p:=⟨R,0,none⟩) (Nat.lt_succ_self R)).trans d0,(hW.cell (p:=⟨R,1,none⟩) (Nat.lt_succ_self R)).trans d1⟩
     have hlt4 : R + 1≤w3.drew.heap.size:=hlt3
     have HK2:=Lib.hid hk2
     clear hk2
     go_region_held3 (fun w'=>w'.cell? ⟨R,0,none⟩ = some (.string s)∧w'.cell? ⟨R,1,none⟩ = some (.int .i64 j2)) (first
      | exact HK2.out _ (Below.refl _ _)
      | exact HK2.out _ (hb7.mono hlt4)
      | exact HK2.out _ ((hb7.mono hlt4).alloc (Nat.le_trans hlt4 hb7.size) _)
      | exact HK2.out _ ((Below.refl _ _).alloc hlt4 _)
      | exact HK2.out _ (((Below.refl _ _).alloc hlt4 _).trans (hb7.mono (Nat.le_trans hlt4 (by simp))))
      | exact HK2.out _ (((((Below.refl _ _).alloc hlt4 _).trans (hb7.mono (Nat.le_trans hlt4 (by simp)))).setCell (p:=⟨w3.heap.size,0,none⟩) hlt4 _).setCell (p:=⟨w3.heap.size,1,none⟩) hlt4 _)
      | fail "NO KEEP") (first | (go_at_call 176; refine (HFO.out _).mono ?_; rintro e w7 ⟨rfl, hb7⟩; (try have n0 : w7.cell? ⟨w3.heap.size, 0, none⟩ = some (.string ⟨#[]⟩) := (hb7.cell (p := ⟨w3.heap.size, 0, none⟩) (by simp)).trans (Blk.cell (Blk.new w3.drew _ _) 0)); (try have n1 : w7.cell? ⟨w3.heap.size, 1, none⟩ = some (.string ⟨#[]⟩) := (hb7.cell (p := ⟨w3.heap.size, 1, none⟩) (by simp)).trans (Blk.cell (Blk.new w3.drew _ _) 1)); (try have nf0 : w7.frozen? ⟨w3.heap.size, 0, none⟩ = false := (hb7.frozen (p := ⟨w3.heap.size, 0, none⟩) (by simp)).trans (Blk.frozen (Blk.new w3.drew 58 #[.string ⟨#[]⟩, .string ⟨#[]⟩]) 0)); (try have nf1 : w7.frozen? ⟨w3.heap.size, 1, none⟩ = false := (hb7.frozen (p := ⟨w3.heap.size, 1, none⟩) (by simp)).trans (Blk.frozen (Blk.new w3.drew 58 #[.string ⟨#[]⟩, .string ⟨#[]⟩]) 1))))
     ·have a7 : Ap (fun b=>b = R) w w7:=(AP3.drew).trans (Ap.of_below hb7)
      have r7 : Rd w7 R s j2 tx ov:=(hb7.block R hlt3).trans RD3
      have r8 : w.heap.size≤w7.heap.size:=a7.size
      have a8 : Ap (fun b=>b = R) w3 w7:=((Ap.refl _ w3).drew).trans (Ap.of_below hb7)
      have ow8:=own_ap OW3.out a8 HBR.out
      have ob8 : u3.ownBlock ≠ some w7.heap.size:=fun e=>by have:=(ow8.lt _ e).2;omega
      have ow9:=Lib.hid (own_ap ow8 ((Ap.refl (fun b=>b = R) w7).alloc (.cells #[.string (st nm),.string ⟨#[]⟩] 58)) HBR.out)
      have ob8:=Lib.hid ob8
      clear ow8
      go_wp2_with fail
      go_meet
      case rel=>exact ⟨w7.heap.size,rfl,r8,ob8.out,ow9,Blk.new w7 _ _,a7.alloc _,Blk.alloc r7 _⟩
     ·have a7 : Ap (fun b=>b = R) w w7:=((AP3.alloc (.cells #[.string ⟨#[]⟩,.string ⟨#[]⟩] 58)).drew).trans (Ap.of_below hb7)
      have r7 : Rd w7 R s j2 tx ov:=(hb7.block R (by simp;omega)).trans (Blk.alloc RD3 (.cells #[.string ⟨#[]⟩,.string ⟨#[]⟩] 58))
      have b7 : Blk w7 w3.heap.size 58 #[.string ⟨#[]⟩,.string ⟨#[]⟩]:=(hb7.block w3.heap.size (by simp)).trans (Blk.new w3 _ _)
      have hne3 : R ≠ w3.heap.size:=by omega
      have a8 : Ap (fun b=>b = R) w3 w7:=(((Ap.refl _ w3).alloc (.cells #[.string ⟨#[]⟩,.string ⟨#[]⟩] 58)).drew).trans (Ap.of_below hb7)
      have ob8 : u3.ownBlock ≠ some w3.heap.size:=fun e=>by have:=(OW3.out.lt _ e).2;omega
      have ow9:=Lib.hid (ownsRow_setCell_other (ownsRow_setCell_other (own_ap OW3.out a8 HBR.out) (a:=⟨w3.heap.size,0,none⟩) ob8 (.string (st nm))) (a:=⟨w3.heap.size,1,none⟩) ob8 (.string ⟨#[]⟩))
      have ob8:=Lib.hid ob8
      go_wp2_with fail
      go_meet
      case rel=>exact ⟨w3.heap.size,rfl,hsz3,ob8.out,ow9,(b7.set_ 0 _).set_ 1 _,(a7.setNew (p:=⟨w3.heap.size,0,none⟩) hsz3 _).setNew (p:=⟨w3.heap.size,1,none⟩) hsz3 _,Blk.far (Blk.far r7 (p:=⟨w3.heap.size,0,none⟩) hne3 _) (p:=⟨w3.heap.size,1,none⟩) hne3 _⟩
    case rest =>
     obtain ⟨P,rfl,hP,hOP,OWx,PB,APx,RDx⟩:=hcut
     have HOP:=Lib.hid hOP
     clear hOP OW3
     have hPR : P ≠ R:=by omega
     have e3:=adv s j2 Mk.white
     have l3:=adv_le s j2 l2 Mk.white
     have hp3:=rd_pass 178 #[] Mk.white eg_White RDx.out l2 hs (fun w' _=>asks_White w')
     obtain ⟨j3,hj3⟩ : ∃ j3,j3 = j2 + ((s.data.toList.drop j2).takeWhile Mk.white).length:=⟨_,rfl⟩
     rw [← hj3] at e3 l3 hp3
     have hjj3 : j2≤j3:=by omega
     rw [← e3] at HA
     have HP3:=Lib.hid hp3
     clear e3 hj3 hp3 d0 d1 RD3 AP3 hlt3 hsz3 hle1 hle2 HFO
     go_wp2_with fail
     refine HP3.out.mono ?_
     rintro e w5 ⟨rfl,RD5,MV5⟩
     have AP5:=Lib.hid (APx.out.trans MV5.ap)
     have PB5:=Lib.hid (PB.out.ap MV5.ap hPR)
     have RD5:=Lib.hid RD5
     have OW5:=Lib.hid (own_ap OWx.out MV5.ap HBR.out)
     clear OWx HP3 MV5 PB APx RDx
     have hh:=fun n=>rd_here 193 #[] (fun c=>c == 61) eg_attrs3 (RD5.out.drewN n) (fun m=>asks_attrs3 _)
     rw [headIs_at] at hh
     have HH:=Lib.hid hh
     clear hh
     obtain ⟨bb,hbb⟩ : ∃ bb,Mg.isAt 61 (s.data.toList.drop j3) = bb:=⟨_,rfl⟩
     rw [hbb] at HH
     have HBB:=Lib.hid hbb
     clear hbb
     go_wp2_with fail
     refine (HH.out 0).mono ?_
     rintro e w6 ⟨rfl,n,rfl⟩
     have AP6 : Hid (Ap (fun b=>b = R) w (((w5).drewN 0).drewN n)):=AP5.out.drewN n
     have PB6 : Hid (Blk (((w5).drewN 0).drewN n) P 58 #[.string (st nm),.string ⟨#[]⟩]):=PB5.out
     have RD6 : Hid (Rd (((w5).drewN 0).drewN n) R s j3 tx ov):=RD5.out
     have OW6 : Hid ((((w5).drewN 0).drewN n).ownsRow w.heap.size 58 2 u3 out.length (atCells out)):=OW5.out
     generalize (((w5).drewN 0).drewN n) = w6 at AP6 PB6 RD6 OW6 ⊢
     clear OW5
     clear HH AP5 PB5 RD5
     go_upto_if 34 with fail
     go_cut [34] (fun _ wx=>∃ j4 v,j3≤j4∧j4≤s.size∧Hid (wx.ownsRow w.heap.size 58 2 u3 out.length (atCells out))∧Hid (Mk.restOf (s.data.toList.drop j3) = some (v,s.data.toList.drop j4))∧Hid (Blk wx P 58 #[.string (st nm),.string (st v)])∧Hid (Ap (fun b=>b = R) w wx)∧Hid (Rd wx R s j4 tx ov))
     case first =>
      cases bb with
      | false =>
       have HR : Hid (Mk.restOf (s.data.toList.drop j3) = some ([],s.data.toList.drop j3)):=by show _ = _;rw [Mk.restOf,HBB.out];rfl
       clear HBB
       go_wp2_with fail
       go_meet
       case rel=>exact ⟨j3,[],Nat.le_refl _,l3,OW6,HR,PB6,AP6,RD6⟩
      | true =>
       have hlt5 : j3 < s.size:=by
        rcases Nat.lt_or_ge j3 s.size with h1 | h1
        ·exact h1
        ·have:=HBB.out;rw [List.drop_of_length_le (by simp;omega)] at this;cases this
       have HR : Hid (Mk.restOf (s.data.toList.drop j3) = (Mk.valueOf (s.data.toList.drop (j3 + 1))).map (fun x=>((Mk.take x.1).1,x.2))):=by show _ = _;rw [Mk.restOf,HBB.out,if_pos rfl,List.tail_drop]
       clear HBB
       have c1:=RD6.out.c1
       have f1:=RD6.out.fz 1
       go_wp2_with fail
       have RD7 : Hid (Rd (w6.setCell ⟨R,1,none⟩ (.int .i64 ((j3 : Int) + 1))) R s (j3 + 1) tx ov):=by show Rd _ _ _ _ _ _;have:=RD6.out.at_ (j3 + 1);simpa using this
       have AP7 : Hid (Ap (fun b=>b = R) w (w6.setCell ⟨R,1,none⟩ (.int .i64 ((j3 : Int) + 1)))):=AP6.out.setCell (p:=⟨R,1,none⟩) rfl _
       have PB7 : Hid (Blk (w6.setCell ⟨R,1,none⟩ (.int .i64 ((j3 : Int) + 1))) P 58 #[.string (st nm),.string ⟨#[]⟩]):=PB6.out.far (p:=⟨R,1,none⟩) hPR _
       have OW7 : Hid ((w6.setCell ⟨R,1,none⟩ (.int .i64 ((j3 : Int) + 1))).ownsRow w.heap.size 58 2 u3 out.length (atCells out)):=own_ap OW6.out ((Ap.refl (fun b=>b = R) w6).setCell (p:=⟨R,1,none⟩) rfl _) HBR.out
       generalize (w6.setCell ⟨R,1,none⟩ (.int .i64 ((j3 : Int) + 1))) = w7 at RD7 AP7 PB7 OW7 ⊢
       clear OW6
       clear RD6 AP6 PB6 c1 f1
       refine (rd_value RD7.out (by omega) hs).mono ?_
       rintro e w8 (⟨hvn,rfl,⟨jj,hrd8⟩,ha8⟩ | ⟨v,r,j4,hvs,rfl,hj4s,hj4,hr,hrd8,ha8⟩)
       ·rw [HR.out,hvn] at HA
        have HA2 : Hid (Mk.attrsOf (s.data.toList.drop k) = none):=HA
        have AP8:=Lib.hid (AP7.out.trans ha8)
        clear HA HR RD7 AP7 PB7 hvn ha8 OW7 RD AP HATJ
        go_wp2_with fail
        exact ⟨rfl,.inl ⟨HA2.out,rfl,⟨_,hrd8⟩,AP8.out⟩⟩
       ·have hvl:=Mk.valueOf_v_le hvs
        rw [List.length_drop,bs_len] at hvl
        have HR2 : Hid (Mk.restOf (s.data.toList.drop j3) = some ((Mk.take v).1,s.data.toList.drop j4)):=by show _ = _;rw [HR.out,hvs,hr];rfl
        have AP8:=Lib.hid (AP7.out.trans ha8)
        have PB8:=Lib.hid (Blk.ap PB7.out ha8 hPR)
        have OW8:=Lib.hid (own_ap OW7.out ha8 HBR.out)
        have RD8:=Lib.hid hrd8
        have hg8:=hg.ap AP8.out hR0 hR1
        have ht:=esc_Taken (st v) w8 (by rw [st_size];omega) hg8
        rw [bs_st] at ht
        have HT:=Lib.hid ht
        clear HR RD7 AP7 PB7 hvs ha8 hrd8 hr ht hg8
        go_wp2_with fail
        refine HT.out.mono ?_
        rintro e w9 ⟨rfl,hb9⟩
        have a9 : Ap (fun b=>b = R) w8 w9:=Ap.of_below hb9
        have RD9:=Lib.hid ((hb9.block R (Blk.lt RD8.out)).trans RD8.out : Rd w9 R s j4 tx ov)
        have PB9:=Lib.hid ((hb9.block P (Blk.lt PB8.out)).trans PB8.out : Blk w9 P 58 #[.string (st nm),.string ⟨#[]⟩])
        have AP9:=Lib.hid (AP8.out.trans a9)
        have OW9:=Lib.hid (ownsRow_setCell_other (own_ap OW8.out a9 HBR.out) (a:=⟨P,1,none⟩) HOP.out (.string (st (Mk.take v).1)))
        clear OW7 OW8
        have c9 : w9.cell? ⟨P,1,none⟩ = some (.string ⟨#[]⟩):=Blk.cell PB9.out 1
        have f9:=Blk.frozen PB9.out 1
        clear HT hb9 a9 RD8 PB8 AP8
        go_wp2_with fail
        go_meet
        case rel=>exact ⟨j4,(Mk.take v).1,by omega,hj4s,OW9,HR2,Blk.set_ PB9.out 1 _,AP9.out.setNew (p:=⟨P,1,none⟩) hP _,Blk.far RD9.out (p:=⟨P,1,none⟩) (fun e=>hPR e.symm) _⟩
     case rest =>
      obtain ⟨j4,v,hj4,hj4s,OW7,HR,PB7,AP7,RD7⟩:=hcut
      rw [HR.out] at HA
      simp only at HA
      clear HR OW6 PB6 AP6 RD6 HBB
      have hsz7:=AP7.out.size
      have c70 : wc.cell? ⟨P,0,none⟩ = some (.string (st nm)):=Blk.cell PB7.out 0
      have hN:=fun W=>mk_Name (st nm) W (by rw [st_size];omega)
      rw [bs_st] at hN
      cases hin : Mk.isName nm with
      | false =>
       have HA2 : Hid (Mk.attrsOf (s.data.toList.drop k) = Mk.attrsR (s.data.toList.drop j4) out):=by show _ = _;rw [HA.out,Mk.nextAts,hin];rfl
       rw [hin] at hN
       have HN:=Lib.hid hN
       clear hN hin HA
       go_wp2_with fail
       refine (HN.out _).mono ?_
       rintro e w8 ⟨rfl,rfl⟩
       go_wp2_with fail
       go_roundw
       case rel=>exact ⟨j4,out,by omega,hj4s,by omega,HA2,RD7,AP7,OW7⟩
       case measure=>have e1:=HATJ.out;have e2:=RD7.out.atOf;rw [e1,e2];omega
      | true =>
       rw [hin] at hN
       have HN:=Lib.hid hN
       clear hN
       obtain ⟨hs2,hhs2⟩ : ∃ b,Mk.hasAt out nm = b:=⟨_,rfl⟩
       have hPlt : P < wc.heap.size:=Blk.lt PB7.out
       have hcf:=sl_ContainsFunc 195 #[.pointer (some ⟨P,0,none⟩)] (fun a=>a.n == nm) eg_attrs4 out u3 (fun b=>b < wc.heap.size) wc (AtsV.of_own OW7.out (fun g hg'=>(OW7.out.lt g hg').2)) (fun _ hb'=>hb') (by omega) (asks_attrs4 P nm out wc hPlt c70)
       rw [show out.any (fun a=>a.n == nm) = hs2 from hhs2] at hcf
       have HCF:=Lib.hid hcf
       clear hcf
       cases hs2 with
       | true =>
        have HA2 : Hid (Mk.attrsOf (s.data.toList.drop k) = Mk.attrsR (s.data.toList.drop j4) out):=by show _ = _;rw [HA.out,Mk.nextAts,hin,hhs2];rfl
        clear hin HA hhs2
        go_wp2_with fail
        refine (HN.out _).mono ?_
        rintro e w8 ⟨rfl,rfl⟩
        go_wp2_with fail
        refine HCF.out.mono ?_
        rintro e w9 ⟨rfl,hb9⟩
        have a9 : Ap (fun b=>b = R) w8 w9:=Ap.of_below hb9
        have RD9:=Lib.hid (Rd.ap_far RD7.out (Ap.of_below (S:=fun _=>False) hb9) (fun h=>h))
        have AP9:=Lib.hid (AP7.out.trans a9)
        have OW9:=Lib.hid (own_ap OW7.out a9 HBR.out)
        clear a9 hb9 OW7 AP7 RD7 PB7
        go_wp2_with fail
        go_roundw
        case rel=>exact ⟨j4,out,by omega,hj4s,by omega,HA2,RD9,AP9,OW9⟩
        case measure=>have e1:=HATJ.out;have e2:=RD9.out.atOf;rw [e1,e2];omega
       | false =>
        have HA2 : Hid (Mk.attrsOf (s.data.toList.drop k) = Mk.attrsR (s.data.toList.drop j4) (out++[⟨nm,v⟩])):=by show _ = _;rw [HA.out,Mk.nextAts,hin,hhs2];rfl
        clear hin HA hhs2
        go_wp2_with fail
        refine (HN.out _).mono ?_
        rintro e w8 ⟨rfl,rfl⟩
        go_wp2_with fail
        refine HCF.out.mono ?_
        rintro e w9 ⟨rfl,hb9⟩
        have a9 : Ap (fun b=>b = R) w8 w9:=Ap.of_below hb9
        have RD9:=Lib.hid (Rd.ap_far RD7.out (Ap.of_below (S:=fun _=>False) hb9) (fun h=>h))
        have PB9:=Lib.hid (Blk.ap PB7.out (Ap.of_below (S:=fun _=>False) hb9) (fun h=>h))
        have AP9:=Lib.hid (AP7.out.trans a9)
        have OW9:=Lib.hid (own_ap OW7.out a9 HBR.out)
        have hsz9:=AP9.out.size
        have c90 : w9.cell? ⟨P,0,none⟩ = some (.string (st nm)):=Blk.cell PB9.out 0
        have c91 : w9.cell? ⟨P,1,none⟩ = some (.string (st v)):=Blk.cell PB9.out 1
        clear a9 hb9 OW7 AP7 RD7 PB7 c70
        obtain ⟨i0,hi,hz0,hz1,hz2⟩:=info_parts Tryz.infoAttr
        have ow10:=own_ap OW9.out ((Ap.refl (fun b=>b = R) w9).alloc (.cells #[.string (st nm),.string (st v)] 58)) HBR.out
        have hlen10 : out.length≤1048576:=by omega
        go_wp2_with (at_builtin;refine wpList_append_own _ rfl _ _ 50 rfl w.heap.size 58 i0 (.agg #[.string ⟨#[]⟩,.string ⟨#[]⟩]) 2 32 Tryz.underlying50 hi hz0 hz1 hz2 rfl (by decide) _ _ _ rfl ow10 ⟨w9.heap.size,0,none⟩ 1 1 [.string (st nm),.string (st v)] rfl rfl (cells_new _ _ _) (by intro u hu;simp at hu;rcases hu with rfl | rfl <;> rfl) (by unfold maxLen;omega) (by omega) (by simp;omega) ?_)
        intro v' w11 hown' hgrow _
        have hown2 : w11.ownsRow w.heap.size 58 2 v' (out++[(⟨nm,v⟩ : Mk.At)]).length (atCells (out++[⟨nm,v⟩])):=by
         rw [List.length_append,show atCells (out++[(⟨nm,v⟩ : Mk.At)]) = atCells out++[.string (st nm),.string (st v)] by simp [atCells]]
         exact hown'
        have OW11:=Lib.hid hown2
        have AP11:=Lib.hid ((AP9.out.alloc (.cells #[.string (st nm),.string (st v)] 58)).grown hgrow (fun k hk e=>absurd hk (by have:=(OW9.out.lt k e).1;omega)))
        have RD11 : Hid (Rd w11 R s j4 tx ov):=(hgrow.block R (by have:=Blk.lt RD9.out;simp;omega) (fun e=>HBR.out R (OW9.out.lt R e.symm).1 rfl)).trans (Blk.alloc RD9.out _)
        clear hown' hown2 hgrow OW9 AP9 RD9 ow10 PB9 c90 c91
        go_wp2_with fail
        go_roundw
        case rel=>exact ⟨j4,out++[⟨nm,v⟩],by omega,hj4s,by rw [List.length_append,List.length_singleton];omega,HA2,RD11,AP11,OW11⟩
        case measure=>have e1:=HATJ.out;have e2:=RD11.out.atOf;rw [e1,e2];omega
  ·rw [show s.data.toList.drop j1 = [] from List.drop_of_length_le (by simp;omega)] at HA
   simp only at HA
   go_wp2_with fail
   refine HP.out.mono ?_
   rintro e w1 ⟨rfl,RD1,MV1⟩
   have AP1:=AP.out.trans MV1.ap
   go_wp2_with fail
   refine (rd_need_end RD1 (by omega)).mono ?_
   rintro e w2 ⟨rfl,RD2,MV2⟩
   have AP2:=Lib.hid (AP1.trans MV2.ap)
   go_wp2_with fail
   exact ⟨rfl,.inl ⟨HA.out,rfl,⟨_,RD2⟩,AP2.out⟩⟩
end
end Go.Proofs.YteidgdpaolieaaaGreatDoor

/- A token reader with what it has read; contract of its method flush. Condition: texts of at most 1048576 bytes. -/
namespace Go.Proofs.YteidgdpaolieaaaGreatDoor
open Go.RowKit
/-- blocks of attributes. -/
def KT (w : World) (B : Nat) (b : Nat) : Prop:=B≤b∧∃ cs f,w.heap[b]? = some (.cells cs 58 f)
theorem KT.lt {w : World} {B b : Nat} (h : KT w B b) : b < w.heap.size:=by
 obtain ⟨_,cs,f,h⟩:=h
 rcases Nat.lt_or_ge b w.heap.size with h' | h'
 ·exact h'
 ·rw [Array.getElem?_eq_none h'] at h;cases h
theorem KT.ne {w : World} {B b g : Nat} {T : TypeId} {cs : Array Value} (h : KT w B b) (hg : ∃ f,w.heap[g]? = some (.cells cs T f)) (hT : 58 ≠ T) : b ≠ g:=by
 rintro rfl
 obtain ⟨_,cs',f',h⟩:=h
 obtain ⟨f,hg⟩:=hg
 rw [hg] at h
 injection h with h
 injection h with h1 h2 h3
 exact hT h2.symm
theorem KT.keep {w w' : World} {B b : Nat} (h : KT w B b) (hb : w'.heap[b]? = w.heap[b]?) : KT w' B b∧w'.heap[b]? = w.heap[b]?:=⟨⟨h.1,by rw [hb];exact h.2⟩,hb⟩
theorem own_ap' {S : Nat→Prop} {w w' : World} {B size n : Nat} {e : TypeId} {v : Value} {xs : List Value} (h : w.ownsRow B e size v n xs) (ha : Ap S w w') (hS : ∀ g,v.ownBlock = some g→¬ S g) : w'.ownsRow B e size v n xs:=by
 refine ⟨h.1,h.2.imp id ?_⟩
 rintro ⟨g,cap,cur,h1,h2,h3,h4⟩
 have hlt : g < w.heap.size:=by
  rcases Nat.lt_or_ge g w.heap.size with h' | h'
  ·exact h'
  ·rw [Array.getElem?_eq_none h'] at h3;cases h3
 exact ⟨g,cap,cur,h1,h2,(ha.block g hlt (hS g (by rw [h1];rfl))).trans h3,h4⟩
/-- a reader, and the tokens that it has read. -/
structure RdO (w : World) (B R : Nat) (s : ByteArray) (k : Nat) (tx : List UInt8) (ts : List Mk.Tok) (ov : Value) (xs : List Value) : Prop where
 hB : 2≤B
 hBR : B≤R
 rd : Rd w R s k tx ov
 own : w.ownsRow B 94 4 ov ts.length xs
 cells : TCells w (KT w B) ts xs
 ne : ov.ownBlock ≠ some R
def RdS (w : World) (B R : Nat) (s : ByteArray) (k : Nat) (tx : List UInt8) (ts : List Mk.Tok) : Prop:=∃ ov xs,RdO w B R s k tx ts ov xs
section
variable {w w' : World} {B R : Nat} {s : ByteArray} {k : Nat} {tx : List UInt8} {ts : List Mk.Tok} {ov : Value} {xs : List Value}
theorem RdO.next (h : RdO w B R s k tx ts ov xs) {j : Nat} {ty : List UInt8} (ha : Ap (fun b=>b = R) w w') (hr : Rd w' R s j ty ov) : RdO w' B R s j ty ts ov xs :=
 ⟨h.hB,h.hBR,hr,own_ap' h.own ha (fun g hg e=>h.ne (by rw [hg,show g = R from e])),h.cells.frame fun b hb=>hb.keep (ha.block b hb.lt (fun e=>hb.ne ⟨_,h.rd⟩ (by decide) e)),h.ne⟩
theorem RdO.rlt (h : RdO w B R s k tx ts ov xs) : R < w.heap.size:=Blk.lt h.rd
theorem RdO.below (h : RdO w B R s k tx ts ov xs) (hb : Below w.heap.size w w') : RdO w' B R s k tx ts ov xs :=
 h.next (Ap.of_below hb) (h.rd.ap_far (Ap.of_below (S:=fun _=>False) hb) (fun q=>q))
theorem RdO.setText (h : RdO w B R s k tx ts ov xs) (ty : List UInt8) : RdO (w.setCell ⟨R,2,none⟩ (.string (st ty))) B R s k ty ts ov xs :=
 h.next ((Ap.refl (fun b=>b = R) w).setCell (p:=⟨R,2,none⟩) rfl _) (Blk.set_ h.rd 2 _)
theorem RdO.setAt (h : RdO w B R s k tx ts ov xs) (j : Nat) : RdO (w.setCell ⟨R,1,none⟩ (.int .i64 j)) B R s j tx ts ov xs :=
 h.next ((Ap.refl (fun b=>b = R) w).setCell (p:=⟨R,1,none⟩) rfl _) (h.rd.at_ j)
theorem RdO.blt (h : RdO w B R s k tx ts ov xs) : B≤w.heap.size:=Nat.le_trans h.hBR (Nat.le_of_lt h.rlt)
def tokCells (t : Mk.Tok) (va : Value) : List Value:=[.int .i64 t.kind,.string (st t.name),va,.string (st t.text)]
theorem RdO.push (h : RdO w B R s k tx ts ov xs) {t : Mk.Tok} {va : Value} (ha : AtsV w (KT w B) va t.ats) {w1 w2 : World} {v' : Value} (h1 : Below w.heap.size w w1) (hown : w2.ownsRow B 94 4 v' (ts.length + 1) (xs++tokCells t va)) (hg : w1.grownBy w2 ov.ownBlock) (hf : v'.ownBlock = ov.ownBlock ∨ v'.ownBlock = some w1.heap.size) :
  RdS (w2.setCell ⟨R,3,none⟩ v') B R s k tx (ts++[t])∧Below B w (w2.setCell ⟨R,3,none⟩ v')∧Ap (fun b=>b = R ∨ ov.ownBlock = some b) w (w2.setCell ⟨R,3,none⟩ v'):=by
 have hlt:=h.rlt
 have hl1 : R < w1.heap.size:=Nat.lt_of_lt_of_le hlt h1.size
 have hne : v'.ownBlock ≠ some R:=by
  rcases hf with e | e
  ·rw [e];exact h.ne
  ·rw [e];intro q;injection q with q;omega
 have hkeep : ∀ b,KT w B b→KT (w2.setCell ⟨R,3,none⟩ v') B b∧(w2.setCell ⟨R,3,none⟩ v').heap[b]? = w.heap[b]?:=by
  intro b hb
  refine hb.keep ?_
  rw [Below.heap_setCell w2 ⟨R,3,none⟩ v' b (fun e=>hb.ne ⟨_,h.rd⟩ (by decide) e)]
  rw [hg.block b (Nat.lt_of_lt_of_le hb.lt h1.size) ?_]
  ·exact h1.block b hb.lt
  ·intro e
   rcases h.own.2 with ⟨hv,_⟩ | ⟨g,cap,cur,hv,_,hh,_⟩
   ·rw [hv] at e;cases e
   ·rw [hv] at e
    injection e with e
    exact hb.ne ⟨_,hh⟩ (by decide) e
 refine ⟨⟨v',xs++tokCells t va,h.hB,h.hBR,?_,?_,?_,hne⟩,?_⟩
 ·have hr : Rd w2 R s k tx ov:=(hg.block R hl1 (fun e=>h.ne e.symm)).trans ((h1.block R hlt).trans h.rd)
  exact Blk.set_ hr 3 v'
 ·rw [List.length_append]
  exact ownsRow_setCell_other hown (a:=⟨R,3,none⟩) hne v'
 ·exact (h.cells.frame hkeep).snoc (ha.frame hkeep)
 ·refine ⟨Below.setCell ?_ (p:=⟨R,3,none⟩) h.hBR v',?_⟩
  ·exact (h1.mono h.blt).grown hg (Nat.le_trans h.blt h1.size) (fun k hk=>(h.own.lt k hk).1)
  ·refine ((Ap.of_below h1).grown hg (fun k _ e=>.inr e)).setCell (p:=⟨R,3,none⟩) (.inl rfl) v'
end
theorem own_slice {w : World} {B size n : Nat} {e : TypeId} {v : Value} {xs : List Value} (h : w.ownsRow B e size v n xs) : ∃ ao cap,v = .slice ao n cap:=by
 rcases h.2 with ⟨hv,hn⟩ | ⟨g,cap,cur,hv,_⟩
 ·exact ⟨none,0,by rw [hv,hn]⟩
 ·exact ⟨_,_,hv⟩
theorem Tryz.infoTok : (Tryz.prog.info? 94).map (fun i=>(i.zero,i.size,i.bytes)) = some (some (.agg #[.int .i64 0,.string ⟨#[]⟩,.slice none 0 0,.string ⟨#[]⟩]),4,64):=by kernel_rfl

set_option maxHeartbeats 2000000 in
set_option maxRecDepth 100000 in
theorem rd_flush {w : World} {B R : Nat} {s : ByteArray} {k : Nat} {tx : List UInt8} {ts : List Mk.Tok} (hg : Gl w) {ov : Value} {xs : List Value} (h : RdO w B R s k tx ts ov xs) (htx : tx.length≤1048576) (hts : ts.length≤1048576) :
  Calls Tryz.prog 86 #[.pointer (some ⟨R,0,none⟩)] w fun e w'=>e = .returned (.tuple #[])∧RdS w' B R s k [] (Mk.flush tx ts)∧Below B w w'∧Ap (fun b=>b = R ∨ ov.ownBlock = some b) w w':=by
 have c2:=h.rd.c2
 have ht:=esc_Taken (st tx) w (by rw [st_size];exact htx) hg
 rw [bs_st] at ht
 have HT:=Lib.hid ht
 have H:=Lib.hid h
 clear ht h
 go_enter Tryz.func86,Tryz.ntmps86
 go_wp2_with fail
 refine HT.out.mono ?_
 rintro e w1 ⟨rfl,hb1⟩
 have H1:=Lib.hid (H.out.below hb1)
 have L1:=Lib.hid (hb1.mono H.out.blt)
 have A1:=Lib.hid (Ap.of_below (S:=fun b=>b = R ∨ ov.ownBlock = some b) hb1)
 have HF : Hid (Mk.flush tx ts = if (Mk.take tx).1 = [] then ts else ts++[⟨1,[],[],(Mk.take tx).1⟩]):=by show _ = _;rfl
 clear HT hb1 H c2
 generalize (Mk.take tx).2 = bb
 generalize (Mk.take tx).1 = t at HF ⊢
 have hst : (st t).toList = t:=Lib.toList_data _
 have f2:=H1.out.rd.fz 2
 have f3:=H1.out.rd.fz 3
 have c2:=H1.out.rd.c2
 have c3:=H1.out.rd.c3
 by_cases h0 : t = []
 ·subst h0
  rw [if_pos rfl] at HF
  have hst : (st []).toList = []:=Lib.toList_data _
  go_wp2_with fail
  go_end0
  exact ⟨rfl,by rw [HF.out];exact ⟨_,_,H1.out.setText []⟩,L1.out.setCell (p:=⟨R,2,none⟩) H1.out.hBR _,A1.out.setCell (p:=⟨R,2,none⟩) (.inl rfl) _⟩
 ·rw [if_neg h0] at HF
  have he : t.isEmpty = false:=by
   cases t with
   | nil=>exact absurd rfl h0
   | cons _ _=>rfl
  obtain ⟨i0,hi,hz0,hz1,hz2⟩:=info_parts Tryz.infoTok
  have hbl:=H1.out.blt
  have ow10:=own_ap' H1.out.own ((Ap.refl (fun _=>False) w1).alloc (.cells #[.int .i64 1,.string ⟨#[]⟩,.slice none 0 0,.string (st t)] 94)) (fun _ _ q=>q)
  have hb11 : Below w1.heap.size w1 (w1.alloc (.cells #[.int .i64 1,.string ⟨#[]⟩,.slice none 0 0,.string (st t)] 94)):=(Below.refl _ w1).alloc (Nat.le_refl _) _
  go_wp2_with (at_builtin;refine wpList_append_fresh rfl _ _ 41 rfl B 94 i0 (.agg #[.int .i64 0,.string ⟨#[]⟩,.slice none 0 0,.string ⟨#[]⟩]) 4 64 Tryz.underlying41 hi hz0 hz1 hz2 rfl (by decide) _ _ _ rfl ow10 ⟨w1.heap.size,0,none⟩ 1 1 [.int .i64 1,.string ⟨#[]⟩,.slice none 0 0,.string (st t)] rfl rfl (cells_new _ _ _) (by intro u hu;simp at hu;rcases hu with rfl | rfl | rfl | rfl <;> rfl) (by decide) (by unfold maxLen;omega) (by omega) (by simp;omega) ?_)
  intro v' w2 hown' hgrow hfresh
  obtain ⟨r1,r2,r3⟩:=H1.out.push (t:=⟨1,[],[],t⟩) (va:=.slice none 0 0) (AtsV.nil _ _) hb11 hown' hgrow (hfresh.imp id (fun e=>by rw [e];simp))
  have R1:=Lib.hid r1
  have R2:=Lib.hid r2
  have R3:=Lib.hid r3
  have f3' : w2.frozen? ⟨R,3,none⟩ = false:=by
   obtain ⟨_,_,r⟩:=r1
   have:=r.rd.fz 3
   rwa [World.frozen?_setCell] at this
  have c3' : w2.cell? ⟨R,3,none⟩ = some ov:=by
   have hR : Rd w2 R s k tx ov:=(hgrow.block R (Nat.lt_of_lt_of_le H1.out.rlt hb11.size) (fun e=>H1.out.ne e.symm)).trans ((hb11.block R H1.out.rlt).trans H1.out.rd)
   exact hR.c3
  have f2' : (w2.setCell ⟨R,3,none⟩ v').frozen? ⟨R,2,none⟩ = false:=by
   obtain ⟨_,_,r⟩:=r1
   exact r.rd.fz 2
  have c2' : (w2.setCell ⟨R,3,none⟩ v').cell? ⟨R,2,none⟩ = some (.string (st tx)):=by
   obtain ⟨_,_,r⟩:=r1
   exact r.rd.c2
  obtain ⟨ao,cap,rfl⟩:=own_slice hown'
  clear hown' hgrow hfresh r1 r2 r3 ow10 hb11 f2 f3 c2 c3
  go_wp2_with fail
  go_end0
  refine ⟨rfl,?_,(L1.out.trans R2.out).setCell (p:=⟨R,2,none⟩) H1.out.hBR _,(A1.out.trans R3.out).setCell (p:=⟨R,2,none⟩) (.inl rfl) _⟩
  rw [HF.out]
  obtain ⟨ov2,xs2,r⟩:=R1.out
  exact ⟨_,_,r.setText []⟩

/-- memory below a bound, and Boolean variables, stay as they are. -/
def Keeps (w w' : World) : Prop:=∀ (b : Nat) (cs : Array Value) (f : Nat × Nat),w.heap[b]? = some (Obj.cells cs 4 f)→w'.heap[b]? = some (Obj.cells cs 4 f)
structure Fr (B : Nat) (w w' : World) : Prop where
 below : Below B w w'
 keeps : Keeps w w'
theorem Fr.refl (B : Nat) (w : World) : Fr B w w:=⟨Below.refl B w,fun _ _ _ h=>h⟩
theorem Fr.trans {B : Nat} {a b c : World} (h : Fr B a b) (k : Fr B b c) : Fr B a c:=⟨h.below.trans k.below,fun i cs f q=>k.keeps i cs f (h.keeps i cs f q)⟩
theorem Fr.drewN {B : Nat} {a b : World} (h : Fr B a b) (n : Nat) : Fr B a (b.drewN n):=⟨below_drewN h.below n,h.keeps⟩
theorem Fr.drew {B : Nat} {a b : World} (h : Fr B a b) : Fr B a b.drew:=⟨h.below.drew,h.keeps⟩
theorem lt_of_heap {w : World} {b : Nat} {o : Obj} (h : w.heap[b]? = some o) : b < w.heap.size:=by
 rcases Nat.lt_or_ge b w.heap.size with h' | h'
 ·exact h'
 ·rw [Array.getElem?_eq_none h'] at h;cases h
theorem ne_of_type {w : World} {b g : Nat} {cs cs' : Array Value} {f f' : Nat × Nat} {T T' : TypeId} (h : w.heap[b]? = some (.cells cs T f)) (hg : w.heap[g]? = some (.cells cs' T' f')) (hT : T ≠ T') : b ≠ g:=by
 rintro rfl
 rw [hg] at h
 injection h with h
 injection h with h1 h2 h3
 exact hT h2.symm
section
variable {w w' : World} {B R : Nat} {s : ByteArray} {k : Nat} {tx : List UInt8} {ts : List Mk.Tok} {ov : Value} {xs : List Value}
theorem Fr.of_below (h : RdO w B R s k tx ts ov xs) (hb : Below w.heap.size w w') : Fr B w w':=⟨hb.mono h.blt,fun b _ _ q=>(hb.block b (lt_of_heap q)).trans q⟩
theorem Fr.of_ap (h : RdO w B R s k tx ts ov xs) (ha : Ap (fun b=>b = R) w w') : Fr B w w' :=
 ⟨ha.below h.blt (fun k hk e=>by have e : k = R:=e;have:=h.hBR;omega),fun b _ _ q=>(ha.block b (lt_of_heap q) (fun e=>ne_of_type q h.rd (by decide) e)).trans q⟩
theorem Fr.of_push (h : RdO w B R s k tx ts ov xs) (hb : Below B w w') (ha : Ap (fun b=>b = R ∨ ov.ownBlock = some b) w w') : Fr B w w':=by
 refine ⟨hb,fun b _ _ q=>(ha.block b (lt_of_heap q) ?_).trans q⟩
 rintro (e | e)
 ·exact ne_of_type q h.rd (by decide) e
 ·rcases h.own.2 with ⟨hv,_⟩ | ⟨g,cap,cur,hv,_,hh,_⟩
  ·rw [hv] at e;cases e
  ·rw [hv] at e
   injection e with e
   exact ne_of_type q hh (by decide) e.symm
theorem Fr.tok {P : Nat} {cs : Array Value} (hP : Blk w P 94 cs) (hB : B≤P) (i : Nat) (v : Value) : Fr B w (w.setCell ⟨P,i,none⟩ v) :=
 ⟨(Below.refl B w).setCell (p:=⟨P,i,none⟩) hB v,fun b _ _ q=>(Below.heap_setCell w ⟨P,i,none⟩ v b (fun e=>ne_of_type q hP (by decide) e)).trans q⟩
theorem Fr.own (h : RdO w B R s k tx ts ov xs) (i : Nat) (v : Value) : Fr B w (w.setCell ⟨R,i,none⟩ v):=Fr.of_ap h ((Ap.refl (fun b=>b = R) w).setCell (p:=⟨R,i,none⟩) rfl v)
end
end Go.Proofs.YteidgdpaolieaaaGreatDoor
