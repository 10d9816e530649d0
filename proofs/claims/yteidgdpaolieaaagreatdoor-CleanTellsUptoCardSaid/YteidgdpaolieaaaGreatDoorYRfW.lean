/- Contracts of the reference's AttrBytes and TokenBytes: attributes and tokens as they are written. Condition: what is written is of at most 68719476736 bytes. -/
import Derived.Test.YteidgdpaolieaaaGreatDoorYRfU
import Derived.Test.YteidgdpaolieaaaGreatDoorYMkByt1
import Derived.Test.YteidgdpaolieaaaGreatDoorYMkSame
import Derived.Test.YteidgdpaolieaaaGreatDoorYMkTree13
import Derived.Deep.RegionHeld3
import Derived.Test.YteidgdpaolieaaaGreatDoorYMkTok8
import Derived.Test.YteidgdpaolieaaaGreatDoorYRfK
import Derived.Test.YteidgdpaolieaaaGreatDoorYMkFlat1
import Derived.Test.YteidgdpaolieaaaGreatDoorYMkHtml
set_option linter.unusedVariables false
set_option linter.unusedSimpArgs false
namespace Mk
theorem put_ge : ∀ s : Bs,s.length≤(put s).length
 | []=>Nat.le_refl _
 | c :: t=>by
  have h:=put_ge t
  have h1 : 1≤(esc c).length:=by
   unfold esc
   split
   ·decide
   split
   ·decide
   split
   ·decide
   split
   ·decide
   ·exact Nat.le_refl _
  show t.length + 1≤(esc c++put t).length
  rw [List.length_append]
  omega
theorem bytes_step (l : List Tok) (k : Nat) (h : k < l.length) : bytes (l.take (k + 1)) = bytes (l.take k)++tokBytes l[k]:=by
 unfold bytes
 rw [List.take_succ_eq_append_getElem h,List.flatMap_append]
 simp
theorem bytes_le (l : List Tok) (k : Nat) : (bytes (l.take k)).length≤(bytes l).length:=by
 have h : bytes l = bytes (l.take k)++bytes (l.drop k):=by
  unfold bytes
  rw [← List.flatMap_append,List.take_append_drop]
 rw [h,List.length_append]
 omega
end Mk
namespace Go.Proofs.YteidgdpaolieaaaGreatDoor
open Go.RowKit
set_option maxHeartbeats 4000000 in
set_option maxRecDepth 100000 in
theorem rf_AttrBytes (l : List Mk.At) (v : Value) (K : Nat→Prop) (w : World) (hv : AtsV w K v l) (hK : ∀ b,K b→b < w.heap.size) (hl : (Mk.written l).length≤68719476736) :
  Calls Tryz.prog 76 #[v] w fun e w'=>e = .returned (.string (st (Mk.written l)))∧Below w.heap.size w w':=by
 have hst : ∀ l : List UInt8,(st l).toList = l:=fun l=>Lib.toList_data _
 obtain ⟨ao,cap,hv1,hvm,hvc⟩:=hv.get
 subst hv1
 have HV:=Lib.hid hvc
 have HK:=Lib.hid hK
 have hvm2 : l.length≤9223372036854775807:=by unfold maxLen at hvm;omega
 clear hvc hv hK hvm
 go_enter Tryz.func76,Tryz.ntmps76
 go_wp2_with fail
 go_loopw [3,4] (fun s i wr=>∃ k : Nat,k≤l.length∧s = .string (st (Mk.written (l.take k)))∧i = .int .i64 (k : Int)∧Hid (Below w.heap.size w wr)) (fun _ i _=>l.length - (intOf i).toNat)
 case atStart=>exact ⟨0,Nat.zero_le _,rfl,rfl,Below.refl _ _⟩
 case round =>
  obtain ⟨k,hk,rfl,rfl,BL⟩:=hrel
  by_cases hlt : k < l.length
  ·obtain ⟨g,o,rfl,hKg,c0,c1⟩:=HV.out k hlt
   rw [← BL.out.cell (p:=⟨g,_,none⟩) (HK.out g hKg)] at c0 c1
   have HS:=Lib.hid (Mk.written_step l k hlt)
   have hle:=Mk.written_le l (k + 1)
   rw [HS.out] at hle
   simp only [List.length_append,List.length_cons,List.length_nil] at hle
   obtain ⟨a,ha⟩ : ∃ a,l[k] = a:=⟨_,rfl⟩
   rw [ha] at c0 c1 HS hle
   obtain ⟨pre,hpre⟩ : ∃ pre,Mk.written (l.take k) = pre:=⟨_,rfl⟩
   rw [hpre] at HS hle
   rw [hpre]
   have hpg:=Mk.put_ge a.v
   have HPT:=Lib.hid (fun W=>rf_PutOf a.v W (by omega))
   have hki : (k : Int) < l.length:=by omega
   have hk0 : (0 : Int)≤k:=by omega
   have q1 : ¬ 9223372036854775807 < 1 + (st a.n).size:=by rw [st_size];omega
   have q2 : ¬ 9223372036854775807 < 1 + (st a.n).size + 2:=by rw [st_size];omega
   have q3 : ¬ 9223372036854775807 < 1 + (st a.n).size + 2 + (st (Mk.put a.v)).size:=by rw [st_size,st_size];omega
   have q4 : ¬ 9223372036854775807 < 1 + (st a.n).size + 2 + (st (Mk.put a.v)).size + 1:=by rw [st_size,st_size];omega
   have q5 : ¬ 9223372036854775807 < (st pre).size + (1 + (st a.n).size + 2 + (st (Mk.put a.v)).size + 1):=by rw [st_size,st_size,st_size];omega
   have HFR : Hid (∀ W,Below wr.heap.size wr W→W.cell? ⟨g,o + k * 2,none⟩ = some (.string (st a.n))∧W.cell? ⟨g,o + k * 2 + 1,none⟩ = some (.string (st a.v))):=fun W hW=>⟨(hW.cell (p:=⟨g,_,none⟩) (Nat.lt_of_lt_of_le (HK.out g hKg) BL.out.size)).trans c0,(hW.cell (p:=⟨g,_,none⟩) (Nat.lt_of_lt_of_le (HK.out g hKg) BL.out.size)).trans c1⟩
   clear ha hpre HV hpg
   as_aux_lemma =>
   go_wp2_with fail
   go_region_held3 (fun w'=>w'.cell? ⟨g,o + k * 2,none⟩ = some (.string (st a.n))∧w'.cell? ⟨g,o + k * 2 + 1,none⟩ = some (.string (st a.v))) (first
    | exact HFR.out _ ((Below.refl _ _).drew)) (first | (go_at_call 75;refine (HPT.out _).mono ?_;rintro e w2 ⟨rfl,hw2⟩;subst w2))
   all_goals
    have HVV : Hid (st pre++((⟨#[32]⟩ : ByteArray)++st a.n++⟨#[61,34]⟩++st (Mk.put a.v)++⟨#[34]⟩) = st (Mk.written (l.take (k + 1)))):=by
     show _ = _
     rw [HS.out,show (⟨#[32]⟩ : ByteArray) = st [32] from rfl,show (⟨#[61,34]⟩ : ByteArray) = st [61,34] from rfl,show (⟨#[34]⟩ : ByteArray) = st [34] from rfl,st_app,st_app,st_app,st_app,st_app]
    have HB2:=Lib.hid BL.out.drew
    clear HFR q1 q2 q3 q4 q5 c0 c1 HPT hle HS
    go_wp2_with fail
    go_roundw
    case rel=>exact ⟨k + 1,by omega,by rw [HVV.out],by go_num,HB2.out⟩
    case measure=>simp [intOf];omega
  ·have hke : k = l.length:=by omega
   have hki : ¬ (k : Int) < l.length:=by omega
   have HR : Hid (Mk.written (l.take k) = Mk.written l):=by show _ = _;rw [hke,List.take_length]
   rw [HR.out]
   clear HV hke HR
   as_aux_lemma =>
   go_wp2_with fail
   go_ret
   exact ⟨rfl,BL.out⟩
set_option maxHeartbeats 8000000 in
set_option maxRecDepth 100000 in
theorem rf_TokenBytes (l : List Mk.Tok) (v : Value) (K : Nat→Prop) (w : World) (hv : ToksV w K v l) (hK : ∀ b,K b→b < w.heap.size) (hl : (Mk.bytes l).length≤68719476736) :
  Calls Tryz.prog 39 #[v] w fun e w'=>e = .returned (.string (st (Mk.bytes l)))∧Below w.heap.size w w':=by
 have hst : ∀ l : List UInt8,(st l).toList = l:=fun l=>Lib.toList_data _
 obtain ⟨ao,cap,hv1,hvm,hvc⟩:=hv.at_
 subst hv1
 have HV:=Lib.hid hvc
 have HK:=Lib.hid hK
 have hvm2 : l.length≤9223372036854775807:=by unfold maxLen at hvm;omega
 clear hvc hv hK hvm
 go_enter Tryz.func39,Tryz.ntmps39
 go_wp2_with fail
 go_loopw [3,4] (fun s i wr=>∃ k : Nat,k≤l.length∧s = .string (st (Mk.bytes (l.take k)))∧i = .int .i64 (k : Int)∧Hid (Below w.heap.size w wr)) (fun _ i _=>l.length - (intOf i).toNat)
 case atStart=>exact ⟨0,Nat.zero_le _,rfl,rfl,Below.refl _ _⟩
 case round =>
  obtain ⟨k,hk,rfl,rfl,BL⟩:=hrel
  by_cases hlt : k < l.length
  ·have HS:=Lib.hid (Mk.bytes_step l k hlt)
   have hle:=Mk.bytes_le l (k + 1)
   rw [HS.out,List.length_append] at hle
   obtain ⟨t,ht⟩ : ∃ t,l[k] = t:=⟨_,rfl⟩
   have htk2 : l[k]? = some t:=by rw [List.getElem?_eq_getElem hlt,ht]
   obtain ⟨g,o,aot,capt,hao,hKg,hva,c0,c1,c2,c3⟩:=HV.out k t htk2
   subst hao
   have hgw:=HK.out g hKg
   rw [← BL.out.cell (p:=⟨g,_,none⟩) hgw] at c0 c1 c2 c3
   rw [ht] at HS hle
   obtain ⟨pre,hpre⟩ : ∃ pre,Mk.bytes (l.take k) = pre:=⟨_,rfl⟩
   rw [hpre] at HS hle
   rw [hpre]
   have hki : (k : Int) < l.length:=by omega
   have hk0 : (0 : Int)≤k:=by omega
   have HFR : Hid (∀ W,Below wr.heap.size wr W→W.cell? ⟨g,o + k * 4 + 1,none⟩ = some (.string (st t.name))∧W.cell? ⟨g,o + k * 4 + 2,none⟩ = some (.slice aot t.ats.length capt)):=fun W hW=>⟨(hW.cell (p:=⟨g,_,none⟩) (Nat.lt_of_lt_of_le hgw BL.out.size)).trans c1,(hW.cell (p:=⟨g,_,none⟩) (Nat.lt_of_lt_of_le hgw BL.out.size)).trans c2⟩
   have hlen0 : (Mk.bytes l).length≤68719476736:=hl
   clear ht htk2 hpre HV
   by_cases hk1 : t.kind = 1
   ·have hb : Mk.tokBytes t = Mk.put t.text:=by unfold Mk.tokBytes;rw [if_pos hk1]
    rw [hb] at HS hle
    rw [hk1] at c0
    have hpg:=Mk.put_ge t.text
    have HPT:=Lib.hid (fun W=>rf_PutOf t.text W (by omega))
    have q5 : ¬ 9223372036854775807 < (st pre).size + (st (Mk.put t.text)).size:=by rw [st_size,st_size];omega
    have HVV : Hid (st pre++st (Mk.put t.text) = st (Mk.bytes (l.take (k + 1)))):=by show _ = _;rw [HS.out,st_app]
    clear hk1 hb HS hva HFR hpg
    as_aux_lemma =>
    go_wp2_with fail
    refine (HPT.out _).mono ?_
    rintro e w2 ⟨rfl,hw2⟩
    subst w2
    go_wp2_with fail
    go_roundw
    case rel=>exact ⟨k + 1,by omega,by rw [HVV.out],by go_num,BL⟩
    case measure=>simp [intOf];omega
   have hk1b : (t.kind == 1) = false:=beq_eq_false_iff_ne.2 hk1
   by_cases hk2 : t.kind = 2
   ·have hb : Mk.tokBytes t = [60]++t.name++Mk.written t.ats++[62]:=by unfold Mk.tokBytes;rw [if_neg hk1,if_pos hk2]
    rw [hb] at HS hle
    rw [hk2] at c0
    simp only [List.length_append,List.length_cons,List.length_nil] at hle
    have HAB : Hid (∀ W,Below wr.heap.size wr W→Calls Tryz.prog 76 #[.slice aot t.ats.length capt] W fun e w'=>e = .returned (.string (st (Mk.written t.ats)))∧Below W.heap.size W w'):=fun W hW=>by
     have hWW:=BL.out.trans (hW.mono BL.out.size)
     exact rf_AttrBytes t.ats _ K W (hva.below HK.out hWW) (fun b q=>Nat.lt_of_lt_of_le (HK.out b q) hWW.size) (by omega)
    have q1 : ¬ 9223372036854775807 < 1 + (st t.name).size:=by rw [st_size];omega
    have q2 : ¬ 9223372036854775807 < 1 + (st t.name).size + (st (Mk.written t.ats)).size:=by rw [st_size,st_size];omega
    have q3 : ¬ 9223372036854775807 < 1 + (st t.name).size + (st (Mk.written t.ats)).size + 1:=by rw [st_size,st_size];omega
    have q5 : ¬ 9223372036854775807 < (st pre).size + (1 + (st t.name).size + (st (Mk.written t.ats)).size + 1):=by rw [st_size,st_size,st_size];omega
    clear hk1 hk2 hb hva hk1b
    as_aux_lemma =>
    go_wp2_with fail
    go_region_held3 (fun w'=>w'.cell? ⟨g,o + k * 4 + 1,none⟩ = some (.string (st t.name))∧w'.cell? ⟨g,o + k * 4 + 2,none⟩ = some (.slice aot t.ats.length capt)) (first
     | exact HFR.out _ ((Below.refl _ _).drew)
     | exact HFR.out _ hB2) (first | (go_at_call 76;refine (HAB.out _ ((Below.refl _ _).drew)).mono ?_;rintro e w2 ⟨rfl,hb2⟩;have hB2 : Below wr.heap.size wr w2:=((Below.refl _ _).drew).trans hb2))
    all_goals
     have HVV : Hid (st pre++((⟨#[60]⟩ : ByteArray)++st t.name++st (Mk.written t.ats)++⟨#[62]⟩) = st (Mk.bytes (l.take (k + 1)))):=by
      show _ = _
      rw [HS.out,show (⟨#[60]⟩ : ByteArray) = st [60] from rfl,show (⟨#[62]⟩ : ByteArray) = st [62] from rfl,st_app,st_app,st_app,st_app]
     have HB2:=Lib.hid (BL.out.trans (hB2.mono BL.out.size))
     clear hb2 hB2 HFR HAB q1 q2 q3 q5 c0 c1 c2 c3 hle HS
     go_wp2_with fail
     go_roundw
     case rel=>exact ⟨k + 1,by omega,by rw [HVV.out],by go_num,HB2.out⟩
     case measure=>simp [intOf];omega
   have hk2b : (t.kind == 2) = false:=beq_eq_false_iff_ne.2 hk2
   by_cases hk3 : t.kind = 3
   ·have hb : Mk.tokBytes t = [60,47]++t.name++[62]:=by unfold Mk.tokBytes;rw [if_neg hk1,if_neg hk2,if_pos hk3]
    rw [hb] at HS hle
    rw [hk3] at c0
    simp only [List.length_append,List.length_cons,List.length_nil] at hle
    have q1 : ¬ 9223372036854775807 < 2 + (st t.name).size:=by rw [st_size];omega
    have q3 : ¬ 9223372036854775807 < 2 + (st t.name).size + 1:=by rw [st_size];omega
    have q5 : ¬ 9223372036854775807 < (st pre).size + (2 + (st t.name).size + 1):=by rw [st_size,st_size];omega
    have HVV : Hid (st pre++((⟨#[60,47]⟩ : ByteArray)++st t.name++⟨#[62]⟩) = st (Mk.bytes (l.take (k + 1)))):=by
     show _ = _
     rw [HS.out,show (⟨#[60,47]⟩ : ByteArray) = st [60,47] from rfl,show (⟨#[62]⟩ : ByteArray) = st [62] from rfl,st_app,st_app,st_app]
    clear hk1 hk2 hk3 hb HS hva HFR hk1b hk2b
    as_aux_lemma =>
    go_wp2_with fail
    go_roundw
    case rel=>exact ⟨k + 1,by omega,by rw [← HVV.out],by go_num,BL⟩
    case measure=>simp [intOf];omega
   have hk3b : (t.kind == 3) = false:=beq_eq_false_iff_ne.2 hk3
   have HVV : Hid (pre = Mk.bytes (l.take (k + 1))):=by
    have hb : Mk.tokBytes t = []:=by unfold Mk.tokBytes;rw [if_neg hk1,if_neg hk2,if_neg hk3]
    show _ = _
    rw [HS.out,hb,List.append_nil]
   clear hk1 hk2 hk3 HS hva HFR
   as_aux_lemma =>
   go_wp2_with fail
   go_roundw
   case rel=>exact ⟨k + 1,by omega,by rw [← HVV.out],by go_num,BL⟩
   case measure=>simp [intOf];omega
  ·have hke : k = l.length:=by omega
   have hki : ¬ (k : Int) < l.length:=by omega
   have HR : Hid (Mk.bytes (l.take k) = Mk.bytes l):=by show _ = _;rw [hke,List.take_length]
   rw [HR.out]
   clear HV hke HR
   as_aux_lemma =>
   go_wp2_with fail
   go_ret
   exact ⟨rfl,BL.out⟩
end Go.Proofs.YteidgdpaolieaaaGreatDoor

/- Contract of the reference's FlatOf: the tokens of a tree. Condition: at most 549755813888 nodes, attributes and letters. -/
namespace Go.Proofs.YteidgdpaolieaaaGreatDoor
open Go.RowKit
theorem blk_news4 {W : World} {q : Nat} {t : TypeId} {vs : Array Value} (h : Blk W q t vs) : ∀ (j : Nat) (u : Value),vs.toList[j]? = some u→W.cell? ((⟨q,0,none⟩ : Addr).add j) = some u:=by
 intro j u hu
 have e1 : (⟨q,0,none⟩ : Addr).add j = ⟨q,0 + j,none⟩:=by unfold Addr.add;split <;> simp_all
 rw [e1,Nat.zero_add,Blk.cell h j]
 simpa using hu
/-- appending all of one own row to another, inside a region that draws its order. -/
theorem wp_append_more_step {P : Program} {w : World} {ops : Array Oper} {o : Oper} {a : Act} {K : Act→World→Prop} {Q : Exit→Act→World→Prop} {E : Prop} (hgd : o.guard = none) (s x : Operand) (t : TypeId)
  (ho : o.op = .call { callee:=.builtin .append,args:=#[s,x],argTypes:=#[t,t] })
  (base : Nat) (e : TypeId) (i : TypeInfo) (z : Value) (size bytes : Nat) (ht : P.underlying t = some (.slice e)) (hi : P.info? e = some i) (hz : i.zero = some z)
  (hsize : i.size = size) (hby : i.bytes = bytes) (hzs : z.cells.size = size) (hsz : 0 < size)
  (v : Value) (n : Nat) (xs : List Value) (hs : a.eval s = v) (hown : w.ownsRow base e size v n xs)
  (u : Value) (m B2 : Nat) (news : List Value) (hx : a.eval x = u) (hu : w.ownsRow B2 e size u m news) (h0 : m = 0→u = .slice none 0 0) (h1 : ∀ u ∈ news,u.oneCell' = true)
  (h63 : n + m≤maxLen) (hbytes : (n + m) * bytes≤140737488355328) (hbase : base≤w.heap.size)
  (h : ∀ v' w',w'.ownsRow base e size v' (n + m) (xs++news)→w.grownBy w' v.ownBlock→(v'.ownBlock = v.ownBlock ∨ v'.ownBlock = some w.heap.size)→K (a.put o.dst v') w') :
  if Region.wanted o (yielded ops a.tmps) = true then Oper.wp P o a w K Q else E:=by
 by_cases hm : m = 0
 ·have hu0:=h0 hm
  subst hm
  have hnil : news = []:=List.eq_nil_of_length_eq_zero (by rw [hu.1,Nat.zero_mul])
  subst hnil
  have hw : Region.wanted o (yielded ops a.tmps) = true:=by simp [Region.wanted,hgd]
  rw [if_pos hw]
  have hfin:=h v w (by rw [Nat.add_zero,List.append_nil];exact hown) (grownBy_refl w _) (.inl rfl)
  rw [hu0] at hx
  subst hsize
  have hrun:=run_append_owned_none (P:=P) (w:=w) base t o.type e i i.size ht hi v n xs hown
  unfold Oper.wp execOp
  simp only [ho,resolve,invoke,builtin,Sem.run_bind,Sem.run_pure,Result.andThen_ok,List.map_toArray,List.map_cons,List.map_nil,hs,hx,hrun]
  exact hfin
 ·rcases hu.2 with ⟨_,hn0⟩ | ⟨g,cap,cur,hv,_⟩
  ·exact absurd hn0 hm
  ·have hcl:=hu.cells (g:=g) (by rw [hv];rfl)
   exact wp_append_fresh_step hgd s x t ho base e i z size bytes ht hi hz hsize hby hzs hsz v n xs hs hown ⟨g,0,none⟩ m cap news (by rw [hx,hv]) hu.1 hcl h1 (Nat.pos_of_ne_zero hm) h63 hbytes hbase h
def FlatC (f : Mk.Fo) : Prop:=∀ (v : Value) (K : Nat→Prop) (w : World),FoV w K v f→(∀ b,K b→b < w.heap.size)→Calls Tryz.prog 40 #[v] w fun e w'=>∃ v' xs,e = .returned v'∧OwnT w' w.heap.size v' (Mk.flat f) xs∧(Mk.flat f = []→v' = .slice none 0 0)∧Below w.heap.size w w'
set_option maxHeartbeats 16000000 in
set_option maxRecDepth 100000 in
theorem rf_FlatOf (N : Nat) : ∀ (f : Mk.Fo),f.bulk < N→f.bulk≤549755813888→FlatC f:=by
 induction N with
 | zero=>intro f hN;omega
 | succ N ih =>
  intro f hN hf v K w hv hK
  have hst : ∀ l : List UInt8,(st l).toList = l:=fun l=>Lib.toList_data _
  obtain ⟨ao,cap,hv1,hvm,hvc⟩:=hv.get
  subst hv1
  have HV:=Lib.hid hvc
  have HK:=Lib.hid hK
  have hfl:=Mk.flat_len f
  have hgl:=Mk.Fo.len_bulk f
  clear hvc hv hK
  go_enter Tryz.func40,Tryz.ntmps40
  go_wp2_with fail
  go_loopw [3,4] (fun u i wr=>∃ (k : Nat) (L : List Mk.Tok) (xs : List Value),k≤f.len∧i = .int .i64 (k : Int)∧Hid (L++Mk.flat (f.drop k) = Mk.flat f)∧Hid (OwnT wr w.heap.size u L xs)∧Hid (L = []→u = .slice none 0 0)∧Hid (Below w.heap.size w wr)) (fun _ i _=>f.len - (intOf i).toNat)
  case atStart=>exact ⟨0,[],[],Nat.zero_le _,rfl,by show _ = _;rw [Mk.Fo.drop_zero];rfl,⟨World.ownsRow_nil _ _ _ _,rfl⟩,fun _=>rfl,Below.refl _ _⟩
  case round =>
   obtain ⟨k,L,xs,hk,rfl,HL,OT,HNL,BL⟩:=hrel
   have hsz:=BL.out.size
   obtain ⟨aou,capu,hu⟩:=own_slice OT.out.own
   subst hu
   by_cases hlt : k < f.len
   ·obtain ⟨n,a,t,kk,r,hd,hd1⟩:=Mk.Fo.drop_lt f k hlt
    obtain ⟨g,o,aoa,capa,aok,capk,rfl,hKg,c0,c1,c2,c3,hva,hvk⟩:=HV.out k n a t kk r hd
    have hgw:=HK.out g hKg
    have hdb : (f.drop k).bulk = 1 + n.length + t.length + Mk.Fo.atB a + kk.bulk + r.bulk:=by rw [hd];rfl
    have hdb2:=Mk.Fo.drop_bulk f k
    have hatl:=Mk.atB_len a
    have hLL : L.length + (Mk.flatOne n a t kk).length≤2 * f.bulk:=by
     have h:=HL.out
     rw [hd,Mk.flat_node] at h
     have:=congrArg List.length h
     simp only [List.length_append] at this
     omega
    have HL2 : Hid ((L++Mk.flatOne n a t kk)++Mk.flat (f.drop (k + 1)) = Mk.flat f):=by
     show _ = _
     have h:=HL.out
     rw [hd,Mk.flat_node] at h
     rw [hd1,List.append_assoc]
     exact h
    have HFC : Hid (∀ W,Below w.heap.size w W→W.cell? ⟨g,o + k * 4,none⟩ = some (.string (st n))∧W.cell? ⟨g,o + k * 4 + 1,none⟩ = some (.slice aoa a.length capa)∧W.cell? ⟨g,o + k * 4 + 2,none⟩ = some (.string (st t))∧W.cell? ⟨g,o + k * 4 + 3,none⟩ = some (.slice aok kk.len capk)):=fun W hW=>⟨(hW.cell (p:=⟨g,_,none⟩) hgw).trans c0,(hW.cell (p:=⟨g,_,none⟩) hgw).trans c1,(hW.cell (p:=⟨g,_,none⟩) hgw).trans c2,(hW.cell (p:=⟨g,_,none⟩) hgw).trans c3⟩
    obtain ⟨d0,d1,d2,d3⟩:=HFC.out wr BL.out
    have HVA:=Lib.hid hva
    have HVK:=Lib.hid hvk
    have hki : (k : Int) < f.len:=by omega
    have hk0 : (0 : Int)≤k:=by omega
    have HTC:=Lib.hid (ih kk (by omega) (by omega))
    have hal9 : a.length≤549755813888:=by omega
    obtain ⟨i0,hi,hz0,hz1,hz2⟩:=info_parts Tryz.infoTok
    have hEM:=rf_IsEmpty n
    clear HL hd hd1 hva hvk hdb2 ih HV c0 c1 c2 c3
    go_upto_block 1 with fail
    go_cut [3] (fun u wx=>∃ (L7 : List Mk.Tok) (xs7 : List Value),Hid (L7++Mk.flat (f.drop (k + 1)) = Mk.flat f)∧Hid (OwnT wx w.heap.size u L7 xs7)∧Hid (L7 = []→u = .slice none 0 0)∧Hid (Below w.heap.size w wx))
    case first =>
     as_aux_lemma =>
     have hne : n = [] ∨ n.isEmpty = false:=by
      cases n with
      | nil=>exact .inl rfl
      | cons _ _=>exact .inr rfl
     rcases hne with hn | hn
     ·have he : n.isEmpty = true:=by rw [hn];rfl
      have hfo : Mk.flatOne n a t kk = [⟨1,[],[],t⟩]:=by unfold Mk.flatOne;rw [if_pos hn]
      rw [hfo] at HL2 hLL
      clear hn hfo hEM
      have ow:=own_ap' OT.out.own ((Ap.refl (fun _=>False) wr).alloc (.cells #[.int .i64 1,.string ⟨#[]⟩,.slice none 0 0,.string (st t)] 94)) (fun _ _ q=>q)
      have hal:=(Below.refl wr.heap.size wr).alloc (Nat.le_refl _) (.cells #[.int .i64 1,.string ⟨#[]⟩,.slice none 0 0,.string (st t)] 94)
      simp only [List.length_cons,List.length_nil] at hLL
      as_aux_lemma =>
      go_wp2_with (at_builtin;refine wpList_append_fresh rfl _ _ 41 rfl w.heap.size 94 i0 (.agg #[.int .i64 0,.string ⟨#[]⟩,.slice none 0 0,.string ⟨#[]⟩]) 4 64 Tryz.underlying41 hi hz0 hz1 hz2 rfl (by decide) _ _ _ rfl ow ⟨wr.heap.size,0,none⟩ 1 1 [.int .i64 1,.string ⟨#[]⟩,.slice none 0 0,.string (st t)] rfl rfl (cells_new wr _ _) (by intro u hu;simp at hu;rcases hu with rfl | rfl | rfl | rfl <;> rfl) (by decide) (by unfold maxLen;omega) (by omega) (by simp;omega) ?_)
      intro v9 w9 hown9 hg9 hf9
      have OT9:=Lib.hid (OT.out.more (l2:=[⟨1,[],[],t⟩]) hal hown9 hg9 (by rw [World.size_alloc];exact hf9) ⟨.slice none 0 0,[],rfl,AtsV.nil _ _,rfl⟩)
      have BL9:=Lib.hid ((BL.out.trans (hal.mono hsz)).grown hg9 (by simp;omega) (fun q hq=>(OT.out.own.lt q hq).1))
      clear hown9 hg9 hf9 hal ow hi hz0 hz1 hz2
      go_wp2_with fail
      go_meet
      case rel=>exact ⟨_,_,HL2.out,OT9.out,fun e=>by simp at e,BL9.out⟩
     ·have hnn : n ≠ []:=by intro e;rw [e] at hn;cases hn
      have hfo : Mk.flatOne n a t kk = ⟨2,n,a,[]⟩ :: (if Mk.emptyB n then [] else Mk.flat kk++[⟨3,n,[],[]⟩]):=by unfold Mk.flatOne;rw [if_neg hnn]
      rw [hfo] at HL2 hLL
      clear hnn hfo
      have hL9 : L.length≤1099511627776:=by omega
      have HEM:=Lib.hid hEM
      clear hEM
      as_aux_lemma =>
      go_upto_region 7 with fail
      go_cut [3] (fun u wx=>∃ L2 xs2 ao2 cap2,u = .slice ao2 L2.length cap2∧L2 = L++[⟨2,n,a,[]⟩]∧Hid (OwnT wx w.heap.size u L2 xs2)∧Hid (Below w.heap.size w wx))
      case first =>
       as_aux_lemma =>
       obtain ⟨i1,hj,hy0,hy1,hy2⟩:=info_parts Tryz.infoAttr
       have HLL9:=Lib.hid hL9
       have hl2:=atCells_len a
       have h1c:=atCells_one a
       have HFR : Hid (∀ W,Below wr.heap.size wr W→W.cell? ⟨g,o + k * 4,none⟩ = some (.string (st n))∧W.cell? ⟨g,o + k * 4 + 1,none⟩ = some (.slice aoa a.length capa)):=fun W hW=>⟨(HFC.out W (BL.out.trans (hW.mono hsz))).1,(HFC.out W (BL.out.trans (hW.mono hsz))).2.1⟩
       have HFRW : Hid (∀ W,Below w.heap.size w W→W.cell? ⟨g,o + k * 4,none⟩ = some (.string (st n))∧W.cell? ⟨g,o + k * 4 + 1,none⟩ = some (.slice aoa a.length capa)):=fun W hW=>⟨(HFC.out W hW).1,(HFC.out W hW).2.1⟩
       have HNW : Hid (∀ W,Below wr.heap.size wr W→a.length = 0 ∨ ∃ ad : Addr,aoa = some ad∧∀ (i : Nat) (u : Value),(atCells a)[i]? = some u→W.cell? (ad.add i) = some u):=fun W hW=>by
        have hWW:=BL.out.trans (hW.mono hsz)
        obtain ⟨ao',cap',z1,z2,_⟩:=HVA.out
        injection z1 with e1 e2 e3
        subst e1
        rcases z2 with z2 | ⟨ga,oa,z3,z4,z5⟩
        ·left
         have:=atCells_len a
         rw [z2] at this
         simp at this
         omega
        ·refine .inr ⟨⟨ga,oa,none⟩,z3,fun i u q=>?_⟩
         rw [addr_add,← z5 i u q]
         exact hWW.cell (p:=⟨ga,oa + i,none⟩) (HK.out ga z4)
       have beA:=((Below.refl wr.heap.size wr).alloc (Nat.le_refl _) (.cells #[] 58)).drew
       have owA : ((wr.alloc (.cells #[] 58)).drew).ownsRow wr.heap.size 58 2 (.slice (some ⟨wr.heap.size,0,none⟩) 0 0) 0 []:=⟨rfl,.inr ⟨wr.heap.size,0,#[],rfl,Nat.le_refl _,Blk.new wr _ _,Nat.le_refl _,Nat.zero_le _,rfl,rfl⟩⟩
       clear HL2 hLL hk hdb hfl hgl hf hN hlt hatl HTC HVK HFC HEM HNL
       go_region_held3 (fun w'=>w'.cell? ⟨g,o + k * 4,none⟩ = some (.string (st n))∧w'.cell? ⟨g,o + k * 4 + 1,none⟩ = some (.slice aoa a.length capa)) (first
        | exact HFRW.out _ BL9
        | exact HFR.out _ hB7
        | exact HFR.out _ (hB7.alloc hB7.size _)
        | exact HFR.out _ ((Below.refl _ _).drew)
        | exact HFR.out _ beA
        | fail "NO KEEP") (first | (refine wp_append_row_step rfl (.tmp 32) (.tmp 37) 50 rfl wr.heap.size 58 i1 (.agg #[.string ⟨#[]⟩, .string ⟨#[]⟩]) 2 32 Tryz.underlying50 hj hy0 hy1 hy2 rfl (by decide) (wr.heap.size) (by simp [Act.eval, Act.put]) owA aoa a.length capa (atCells a) (by simp [Act.eval, Act.put]) hl2 (HNW.out _ beA) h1c (run_append_zero _ _ _ _) (by unfold maxLen; omega) (by omega) beA.size ?_; intro v7 w7 ow7 hg7 hf7; obtain ⟨ao7, cap7, rfl⟩ := own_slice ow7; have hB7 : Below wr.heap.size wr w7 := beA.grown hg7 beA.size (fun q hq => by have hq : some (wr.heap.size) = some q := hq; injection hq with hq; omega); have hs7 := hB7.size) | (refine wp_append_fresh_step rfl (.tmp 26) (.tmp 40) 41 rfl w.heap.size 94 i0 (.agg #[.int .i64 0, .string ⟨#[]⟩, .slice none 0 0, .string ⟨#[]⟩]) 4 64 Tryz.underlying41 hi hz0 hz1 hz2 rfl (by decide) (.slice aou L.length capu) L.length xs (by simp [Act.eval, Act.put]) (own_ap' (OT.out.below hB7).own ((Ap.refl (fun _ => False) w7).alloc (.cells #[.int .i64 2, .string (st n), .slice ao7 a.length cap7, .string ⟨#[]⟩] 94)) (fun _ _ q => q)) ⟨w7.heap.size, 0, none⟩ 1 1 [.int .i64 2, .string (st n), .slice ao7 a.length cap7, .string ⟨#[]⟩] (by simp [Act.eval, Act.put]) rfl (cells_new w7 _ _) (by intro u hu; simp at hu; rcases hu with rfl | rfl | rfl | rfl <;> rfl) (by decide) (by have := HLL9.out; unfold maxLen; omega) (by have := HLL9.out; omega) (by have := hB7.size; simp; omega) ?_; intro v9 w9 hown9 hg9 hf9; obtain ⟨ao9, cap9, rfl⟩ := own_slice hown9; have hal7 := hB7.alloc hB7.size (.cells #[.int .i64 2, .string (st n), .slice ao7 a.length cap7, .string ⟨#[]⟩] 94); have OT9 := (OT.out.more (l2 := [⟨2, n, a, []⟩]) hal7 hown9 hg9 hf9 ⟨.slice ao7 a.length cap7, [], rfl, (AtsV.of_own (K := fun g => wr.heap.size ≤ g ∧ g < w7.heap.size) ow7 (fun g hg => ow7.lt g hg)).frame (fun g hg => ⟨⟨Nat.le_trans hsz hg.1, by have := hg.2; simp; omega, fun e => by have := (OT.out.own.lt g e).2; have := hg.1; omega⟩, Below.heap_alloc w7 _ g hg.2⟩), rfl⟩); have BL9 := ((BL.out.trans (hal7.mono hsz)).grown hg9 (by have := hal7.size; omega) (fun q hq => (OT.out.own.lt q hq).1))))
       all_goals
        have HREL:=Lib.hid (And.intro OT9 BL9)
        clear OT9 BL9 hown9 hg9 hf9 hal7 hB7 hg7 hf7 HFR HNW ow7 hi hz0 hz1 hz2 hj hy0 hy1 hy2 OT BL beA owA h1c
        go_wp2_with fail
        go_meet
        case rel=>exact ⟨L++[(⟨2,n,a,[]⟩ : Mk.Tok)],_,ao9,cap9,by rw [List.length_append];rfl,rfl,HREL.out.1,HREL.out.2⟩
      case rest =>
      as_aux_lemma =>
      obtain ⟨L2,xs2,ao2,cap2,rfl,hL2,OT2,BL2⟩:=hcut
      obtain ⟨wb,hwb⟩ : ∃ x,x = wc:=⟨_,rfl⟩
      subst hwb
      obtain ⟨m0,m1,m2,m3⟩:=HFC.out wb BL2.out
      have hl2 : L2.length = L.length + 1:=by rw [hL2,List.length_append];rfl
      have HLN : Hid (L2 ≠ []):=by intro e;rw [e] at hl2;simp at hl2
      have hszb:=BL2.out.size
      have HL3 : Hid (L2++((if Mk.emptyB n then [] else Mk.flat kk++[⟨3,n,[],[]⟩])++Mk.flat (f.drop (k + 1))) = Mk.flat f):=by
       show _ = _
       rw [hL2,← HL2.out]
       simp
      have hl3 : L2.length + (if Mk.emptyB n then [] else Mk.flat kk++[(⟨3,n,[],[]⟩ : Mk.Tok)]).length≤2 * f.bulk:=by
       simp only [List.length_cons] at hLL
       omega
      have hem:=HEM.out wb
      obtain ⟨eb,heb⟩ : ∃ eb,Mk.emptyB n = eb:=⟨_,rfl⟩
      rw [heb] at hem HL3 hl3
      have HEMB:=Lib.hid hem
      clear hl2 hem heb HL2 hLL OT HVA hL2 HNL d0 d1 d2 d3 HEM m1 m2
      cases eb with
      | true =>
       have HL4 : Hid (L2++Mk.flat (f.drop (k + 1)) = Mk.flat f):=by show _ = _;have h:=HL3.out;simpa using h
       clear HL3 hl3
       as_aux_lemma =>
       go_wp2_with fail
       refine HEMB.out.mono ?_
       rintro e w5 ⟨rfl,hw5⟩
       subst w5
       clear m0 m3 HEMB
       go_wp2_with fail
       go_meet
       case rel=>exact ⟨L2,xs2,HL4.out,OT2.out,fun e=>absurd e HLN.out,BL2.out⟩
      | false =>
       have HL4 : Hid (((L2++Mk.flat kk)++[⟨3,n,[],[]⟩])++Mk.flat (f.drop (k + 1)) = Mk.flat f):=by show _ = _;have h:=HL3.out;simpa using h
       have hl4 : L2.length + ((Mk.flat kk).length + 1)≤2 * f.bulk:=by
        have h:=hl3
        simp only [Bool.false_eq_true,if_false,List.length_append,List.length_cons,List.length_nil] at h
        omega
       clear HL3 hl3
       as_aux_lemma =>
       go_wp2_with fail
       refine HEMB.out.mono ?_
       rintro e w5 ⟨rfl,hw5⟩
       subst w5
       clear HEMB
       have HTK : Hid (∀ W,Below wb.heap.size wb W→Calls Tryz.prog 40 #[.slice aok kk.len capk] W fun e w'=>∃ v' xs,e = .returned v'∧OwnT w' W.heap.size v' (Mk.flat kk) xs∧(Mk.flat kk = []→v' = .slice none 0 0)∧Below W.heap.size W w'):=fun W hW=>by
        have hWW:=BL2.out.trans (hW.mono hszb)
        exact HTC.out (.slice aok kk.len capk) K W (HVK.out.below HK.out hWW) (fun b q=>Nat.lt_of_lt_of_le (HK.out b q) hWW.size)
       have HFR : Hid (∀ W,Below w.heap.size w W→W.cell? ⟨g,o + k * 4 + 3,none⟩ = some (.slice aok kk.len capk)∧W.cell? ⟨g,o + k * 4,none⟩ = some (.string (st n))):=fun W hW=>⟨(HFC.out W hW).2.2.2,(HFC.out W hW).1⟩
       have HL49 : Hid (L2.length + ((Mk.flat kk).length + 1)≤1099511627776):=by show _≤_;omega
       have HSL : Hid ((L2++Mk.flat kk).length = L2.length + (Mk.flat kk).length):=by show _ = _;rw [List.length_append]
       have HSL2 : Hid (L2.length + (Mk.flat kk).length + 1 = (L2++(Mk.flat kk++[(⟨3,n,[],[]⟩ : Mk.Tok)])).length):=by show _ = _;simp;omega
       have h1n : ∀ u ∈ [Value.int .i64 3,.string (st n),.slice none 0 0,.string ⟨#[]⟩],u.oneCell' = true:=by intro u hu;simp at hu;rcases hu with rfl | rfl | rfl | rfl <;> rfl
       have beR:=(Below.refl wb.heap.size wb).drew
       have beT:=((Below.refl wb.heap.size wb).alloc (Nat.le_refl _) (.cells #[.int .i64 3,.string (st n),.slice none 0 0,.string ⟨#[]⟩] 94)).drew
       have tbB : Blk (wb.alloc (.cells #[.int .i64 3,.string (st n),.slice none 0 0,.string ⟨#[]⟩] 94)).drew wb.heap.size 94 #[.int .i64 3,.string (st n),.slice none 0 0,.string ⟨#[]⟩]:=Blk.new wb _ _
       clear hdb HTC HVK HFC hN hal9 hatl
       go_wp2_with fail
       go_region_held3 (fun w'=>w'.cell? ⟨g,o + k * 4 + 3,none⟩ = some (.slice aok kk.len capk)∧w'.cell? ⟨g,o + k * 4,none⟩ = some (.string (st n))) (first
        | exact HFR.out _ BL8
        | exact HFR.out _ BL7
        | exact HFR.out _ (BL7.alloc hs7 _)
        | exact HFR.out _ (BL2.out.trans (hB6.mono hszb))
        | exact HFR.out _ ((BL2.out.trans (hB6.mono hszb)).alloc (Nat.le_trans hszb hs6) _)
        | exact HFR.out _ (BL2.out.trans (beR.mono hszb))
        | exact HFR.out _ (BL2.out.trans (beT.mono hszb))
        | fail "NO KEEP") (first | (go_at_call 40; refine (HTK.out _ beT).mono ?_; rintro e w6 ⟨v6, xs6, rfl, ot6, hnil6, hb6⟩; obtain ⟨ao6, cap6, rfl⟩ := own_slice ot6.own; have hB6 : Below wb.heap.size wb w6 := beT.trans (hb6.mono beT.size); have hs6 := hB6.size; have hq6 := beT.size; have hz6 : TCells w6 (KO w.heap.size w6 (.slice ao2 L2.length cap2)) (Mk.flat kk) xs6 := ot6.cells.frame (fun b q => ⟨⟨Nat.le_trans (Nat.le_trans hszb hq6) q.1, q.2.1, fun e => by have := (OT2.out.own.lt b e).2; have := q.1; omega⟩, rfl⟩); have PN6 : Blk w6 wb.heap.size 94 #[.int .i64 3, .string (st n), .slice none 0 0, .string ⟨#[]⟩] := Blk.below tbB hb6 (Blk.lt tbB)) | (go_at_call 40; refine (HTK.out _ beR).mono ?_; rintro e w6 ⟨v6, xs6, rfl, ot6, hnil6, hb6⟩; obtain ⟨ao6, cap6, rfl⟩ := own_slice ot6.own; have hB6 : Below wb.heap.size wb w6 := beR.trans (hb6.mono beR.size); have hs6 := hB6.size; have hq6 := beR.size; have hz6 : TCells w6 (KO w.heap.size w6 (.slice ao2 L2.length cap2)) (Mk.flat kk) xs6 := ot6.cells.frame (fun b q => ⟨⟨Nat.le_trans (Nat.le_trans hszb hq6) q.1, q.2.1, fun e => by have := (OT2.out.own.lt b e).2; have := q.1; omega⟩, rfl⟩)) | (refine wp_append_more_step rfl (.tmp 49) (.tmp 55) 41 rfl w.heap.size 94 i0 (.agg #[.int .i64 0, .string ⟨#[]⟩, .slice none 0 0, .string ⟨#[]⟩]) 4 64 Tryz.underlying41 hi hz0 hz1 hz2 rfl (by decide) (.slice ao2 L2.length cap2) L2.length xs2 (by simp [Act.eval, Act.put]) ((OT2.out.below hB6).own) (.slice ao6 (Mk.flat kk).length cap6) (Mk.flat kk).length _ xs6 (by simp [Act.eval, Act.put]) (ot6.own) (fun q => hnil6 (List.eq_nil_of_length_eq_zero q)) ot6.cells.one (by have := HL49.out; unfold maxLen; omega) (by have := HL49.out; omega) (Nat.le_trans hszb (hB6).size) ?_; intro v7 w7 hown7 hg7 hf7; obtain ⟨ao7, cap7, rfl⟩ := own_slice hown7; have OT7 := OT2.out.more (hB6) hown7 hg7 hf7 (hz6); have BL7 := (BL2.out.trans ((hB6).mono hszb)).grown hg7 (Nat.le_trans hszb (hB6).size) (fun q hq => (OT2.out.own.lt q hq).1); have hs7 := BL7.size; have PN7 : Blk w7 wb.heap.size 94 #[.int .i64 3, .string (st n), .slice none 0 0, .string ⟨#[]⟩] := (hg7.block wb.heap.size (Blk.lt PN6) (fun e => by have := (OT2.out.own.lt _ e.symm).2; omega)).trans PN6) | (refine wp_append_more_step rfl (.tmp 49) (.tmp 55) 41 rfl w.heap.size 94 i0 (.agg #[.int .i64 0, .string ⟨#[]⟩, .slice none 0 0, .string ⟨#[]⟩]) 4 64 Tryz.underlying41 hi hz0 hz1 hz2 rfl (by decide) (.slice ao2 L2.length cap2) L2.length xs2 (by simp [Act.eval, Act.put]) ((OT2.out.below hB6).own) (.slice ao6 (Mk.flat kk).length cap6) (Mk.flat kk).length _ xs6 (by simp [Act.eval, Act.put]) (ot6.own) (fun q => hnil6 (List.eq_nil_of_length_eq_zero q)) ot6.cells.one (by have := HL49.out; unfold maxLen; omega) (by have := HL49.out; omega) (Nat.le_trans hszb (hB6).size) ?_; intro v7 w7 hown7 hg7 hf7; obtain ⟨ao7, cap7, rfl⟩ := own_slice hown7; have OT7 := OT2.out.more (hB6) hown7 hg7 hf7 (hz6); have BL7 := (BL2.out.trans ((hB6).mono hszb)).grown hg7 (Nat.le_trans hszb (hB6).size) (fun q hq => (OT2.out.own.lt q hq).1); have hs7 := BL7.size) | (refine wp_append_more_step rfl (.tmp 49) (.tmp 55) 41 rfl w.heap.size 94 i0 (.agg #[.int .i64 0, .string ⟨#[]⟩, .slice none 0 0, .string ⟨#[]⟩]) 4 64 Tryz.underlying41 hi hz0 hz1 hz2 rfl (by decide) (.slice ao2 L2.length cap2) L2.length xs2 (by simp [Act.eval, Act.put]) (own_ap' (OT2.out.below hB6).own ((Ap.refl (fun _ => False) w6).alloc (.cells #[.int .i64 3, .string (st n), .slice none 0 0, .string ⟨#[]⟩] 94)) (fun _ _ q => q)) (.slice ao6 (Mk.flat kk).length cap6) (Mk.flat kk).length _ xs6 (by simp [Act.eval, Act.put]) (own_ap' ot6.own ((Ap.refl (fun _ => False) w6).alloc (.cells #[.int .i64 3, .string (st n), .slice none 0 0, .string ⟨#[]⟩] 94)) (fun _ _ q => q)) (fun q => hnil6 (List.eq_nil_of_length_eq_zero q)) ot6.cells.one (by have := HL49.out; unfold maxLen; omega) (by have := HL49.out; omega) (Nat.le_trans hszb (hB6.alloc hs6 (.cells #[.int .i64 3, .string (st n), .slice none 0 0, .string ⟨#[]⟩] 94)).size) ?_; intro v7 w7 hown7 hg7 hf7; obtain ⟨ao7, cap7, rfl⟩ := own_slice hown7; have OT7 := OT2.out.more (hB6.alloc hs6 (.cells #[.int .i64 3, .string (st n), .slice none 0 0, .string ⟨#[]⟩] 94)) hown7 hg7 hf7 (hz6.frame (fun b q => ⟨⟨q.1, by have := q.2.1; simp; omega, q.2.2⟩, Below.heap_alloc w6 _ b q.2.1⟩)); have BL7 := (BL2.out.trans ((hB6.alloc hs6 (.cells #[.int .i64 3, .string (st n), .slice none 0 0, .string ⟨#[]⟩] 94)).mono hszb)).grown hg7 (Nat.le_trans hszb (hB6.alloc hs6 (.cells #[.int .i64 3, .string (st n), .slice none 0 0, .string ⟨#[]⟩] 94)).size) (fun q hq => (OT2.out.own.lt q hq).1); have hs7 := BL7.size; have PN7 : Blk w7 w6.heap.size 94 #[.int .i64 3, .string (st n), .slice none 0 0, .string ⟨#[]⟩] := (hg7.block w6.heap.size (by simp) (fun e => by have := (OT2.out.own.lt _ e.symm).2; omega)).trans (Blk.new w6 _ _)) | (refine wp_append_fresh_step rfl (.tmp 56) (.tmp 63) 41 rfl w.heap.size 94 i0 (.agg #[.int .i64 0, .string ⟨#[]⟩, .slice none 0 0, .string ⟨#[]⟩]) 4 64 Tryz.underlying41 hi hz0 hz1 hz2 rfl (by decide) (.slice ao7 (L2.length + (Mk.flat kk).length) cap7) (L2.length + (Mk.flat kk).length) (xs2 ++ xs6) (by simp [Act.eval, Act.put]) (hown7) ⟨wb.heap.size, 0, none⟩ 1 1 [.int .i64 3, .string (st n), .slice none 0 0, .string ⟨#[]⟩] (by simp [Act.eval, Act.put]) rfl (blk_news4 PN7) h1n (by decide) (by have := HL49.out; unfold maxLen; omega) (by have := HL49.out; omega) (Nat.le_trans hs7 (Below.refl w7.heap.size w7).size) ?_; intro v8 w8 hown8 hg8 hf8; obtain ⟨ao8, cap8, rfl⟩ := own_slice hown8; have OT8 := OwnT.more (l2 := [⟨3, n, [], []⟩]) OT7 (Below.refl w7.heap.size w7) (by rw [HSL.out]; exact hown8) hg8 hf8 ⟨.slice none 0 0, [], rfl, AtsV.nil _ _, rfl⟩; have BL8 := (BL7.trans ((Below.refl w7.heap.size w7).mono hs7)).grown hg8 (Nat.le_trans hs7 (Below.refl w7.heap.size w7).size) (fun q hq => (hown7.lt q hq).1)) | (refine wp_append_fresh_step rfl (.tmp 56) (.tmp 63) 41 rfl w.heap.size 94 i0 (.agg #[.int .i64 0, .string ⟨#[]⟩, .slice none 0 0, .string ⟨#[]⟩]) 4 64 Tryz.underlying41 hi hz0 hz1 hz2 rfl (by decide) (.slice ao7 (L2.length + (Mk.flat kk).length) cap7) (L2.length + (Mk.flat kk).length) (xs2 ++ xs6) (by simp [Act.eval, Act.put]) (hown7) ⟨w6.heap.size, 0, none⟩ 1 1 [.int .i64 3, .string (st n), .slice none 0 0, .string ⟨#[]⟩] (by simp [Act.eval, Act.put]) rfl (blk_news4 PN7) h1n (by decide) (by have := HL49.out; unfold maxLen; omega) (by have := HL49.out; omega) (Nat.le_trans hs7 (Below.refl w7.heap.size w7).size) ?_; intro v8 w8 hown8 hg8 hf8; obtain ⟨ao8, cap8, rfl⟩ := own_slice hown8; have OT8 := OwnT.more (l2 := [⟨3, n, [], []⟩]) OT7 (Below.refl w7.heap.size w7) (by rw [HSL.out]; exact hown8) hg8 hf8 ⟨.slice none 0 0, [], rfl, AtsV.nil _ _, rfl⟩; have BL8 := (BL7.trans ((Below.refl w7.heap.size w7).mono hs7)).grown hg8 (Nat.le_trans hs7 (Below.refl w7.heap.size w7).size) (fun q hq => (hown7.lt q hq).1)) | (refine wp_append_fresh_step rfl (.tmp 56) (.tmp 63) 41 rfl w.heap.size 94 i0 (.agg #[.int .i64 0, .string ⟨#[]⟩, .slice none 0 0, .string ⟨#[]⟩]) 4 64 Tryz.underlying41 hi hz0 hz1 hz2 rfl (by decide) (.slice ao7 (L2.length + (Mk.flat kk).length) cap7) (L2.length + (Mk.flat kk).length) (xs2 ++ xs6) (by simp [Act.eval, Act.put]) (own_ap' hown7 ((Ap.refl (fun _ => False) w7).alloc (.cells #[.int .i64 3, .string (st n), .slice none 0 0, .string ⟨#[]⟩] 94)) (fun _ _ q => q)) ⟨w7.heap.size, 0, none⟩ 1 1 [.int .i64 3, .string (st n), .slice none 0 0, .string ⟨#[]⟩] (by simp [Act.eval, Act.put]) rfl (cells_new w7 _ _) h1n (by decide) (by have := HL49.out; unfold maxLen; omega) (by have := HL49.out; omega) (Nat.le_trans hs7 ((Below.refl w7.heap.size w7).alloc (Nat.le_refl _) (.cells #[.int .i64 3, .string (st n), .slice none 0 0, .string ⟨#[]⟩] 94)).size) ?_; intro v8 w8 hown8 hg8 hf8; obtain ⟨ao8, cap8, rfl⟩ := own_slice hown8; have OT8 := OwnT.more (l2 := [⟨3, n, [], []⟩]) OT7 ((Below.refl w7.heap.size w7).alloc (Nat.le_refl _) (.cells #[.int .i64 3, .string (st n), .slice none 0 0, .string ⟨#[]⟩] 94)) (by rw [HSL.out]; exact hown8) hg8 hf8 ⟨.slice none 0 0, [], rfl, AtsV.nil _ _, rfl⟩; have BL8 := (BL7.trans (((Below.refl w7.heap.size w7).alloc (Nat.le_refl _) (.cells #[.int .i64 3, .string (st n), .slice none 0 0, .string ⟨#[]⟩] 94)).mono hs7)).grown hg8 (Nat.le_trans hs7 ((Below.refl w7.heap.size w7).alloc (Nat.le_refl _) (.cells #[.int .i64 3, .string (st n), .slice none 0 0, .string ⟨#[]⟩] 94)).size) (fun q hq => (hown7.lt q hq).1)))
       all_goals
        have HREL:=Lib.hid (And.intro OT8 BL8)
        clear OT8 BL8 hown8 hg8 hf8 OT7 BL7 hown7 hg7 hf7 hz6 ot6 hb6 hB6 HTK HFR tbB beT beR hi hz0 hz1 hz2 OT2 h1n
        go_wp2_with fail
        go_meet
        case rel=>exact ⟨(L2++Mk.flat kk)++[(⟨3,n,[],[]⟩ : Mk.Tok)],_,HL4.out,HREL.out.1,fun e=>by simp at e,HREL.out.2⟩
    case rest =>
    as_aux_lemma =>
    obtain ⟨L7,xs7,HL7,OT7,HN7,BL7⟩:=hcut
    clear HTC HVK HFC OT HL2 HNL hLL
    go_wp2_with fail
    go_roundw
    case rel=>exact ⟨k + 1,L7,xs7,by omega,by go_num,HL7,OT7,HN7,BL7⟩
    case measure=>simp [intOf];omega
   ·have hke : k = f.len:=by omega
    rw [hke,Mk.Fo.drop_len] at HL
    have HL2 : Hid (L = Mk.flat f):=by have h:=HL.out;rwa [show Mk.flat .nil = [] from rfl,List.append_nil] at h
    have hki : ¬ (k : Int) < f.len:=by omega
    clear HL HV hke
    as_aux_lemma =>
    go_wp2_with fail
    go_ret
    first
     | exact ⟨_,xs,rfl,by rw [← HL2.out];exact OT.out,by rw [← HL2.out];exact HNL.out,BL.out⟩
     | exact ⟨_,rfl,⟨xs,by rw [← HL2.out];exact OT.out⟩,by rw [← HL2.out];exact HNL.out,BL.out⟩
     | trace_state
end Go.Proofs.YteidgdpaolieaaaGreatDoor

/- Bounds: what is cleaned of a right tree is greater by at most 3000 a node. No program in sight. -/
namespace Mk
def linkOf (e : Bs) : Bs:=if e = [97] then [104,114,101,102] else [115,114,99]
theorem link_name (e n : Bs) (h1 : mayB e n = true) (h2 : linkB n = true) : n = linkOf e:=by
 unfold mayB at h1
 unfold linkB at h2
 unfold linkOf
 split at h1
 ·rename_i he
  rw [if_pos he]
  rcases Bool.or_eq_true_iff.1 h1 with q | q
  ·exact eq_of_beq q
  ·rw [eq_of_beq q] at h2;exact absurd h2 (by decide)
 ·rename_i he
  rw [if_neg he]
  split at h1
  ·rcases Bool.or_eq_true_iff.1 h1 with q | q
   ·exact eq_of_beq q
   ·rw [eq_of_beq q] at h2;exact absurd h2 (by decide)
  ·cases h1
theorem cleanAts_one (base e : Bs) : ∀ (l seen : List At),checkAts isName seen l = 0→Fo.atB (l.flatMap (cleanAt base e))≤Fo.atB l + (if hasAt seen (linkOf e) = true then 0 else 3000)
 | [],_,_=>Nat.zero_le _
 | a :: r,seen,h=>by
  obtain ⟨h1,h2,h3⟩:=(checkAts_cons ..).1 h
  have ih:=cleanAts_one base e r (seen++[a]) h3
  rw [List.flatMap_cons,atB_append]
  have e1 : Fo.atB (a :: r) = 1 + a.n.length + a.v.length + Fo.atB r:=by simp [Fo.atB]
  rw [e1]
  by_cases hl : mayB e a.n = true∧linkB a.n = true
  ·have hx:=link_name e a.n hl.1 hl.2
   have hs : hasAt (seen++[a]) (linkOf e) = true:=by rw [hasAt_app,hx];simp
   rw [if_pos hs] at ih
   rw [hx] at h2
   rw [if_neg (by rw [h2];decide)]
   have hc : Fo.atB (cleanAt base e a)≤1 + a.n.length + 3000:=by
    unfold cleanAt
    rw [if_neg (by simp [hl.1]),if_pos hl.2]
    split
    ·rename_i hg
     have : (light base a.v).length≤3000:=by
      unfold goodLink at hg
      rw [Bool.and_eq_true] at hg
      exact of_decide_eq_true hg.2
     show 1 + a.n.length + (light base a.v).length + 0≤_
     omega
    ·exact Nat.zero_le _
   omega
  ·have hc : Fo.atB (cleanAt base e a)≤1 + a.n.length + a.v.length:=by
    unfold cleanAt
    split
    ·exact Nat.zero_le _
    ·rename_i hm
     have hm' : mayB e a.n = true:=by simpa using hm
     rw [if_neg (fun q=>hl ⟨hm',q⟩)]
     show 1 + a.n.length + a.v.length + 0≤_
     omega
   have hw : (if hasAt (seen++[a]) (linkOf e) = true then 0 else 3000)≤(if hasAt seen (linkOf e) = true then 0 else 3000):=by
    by_cases q : hasAt seen (linkOf e) = true
    ·rw [if_pos q,if_pos (by rw [hasAt_app,q];rfl)]
     exact Nat.le_refl _
    ·rw [if_neg q]
     split <;> omega
   omega
theorem cleanOn_bulk2 (base : Bs) : ∀ (f : Fo) (names : List Bs) (prev : Bool) (out : Fo),checkF f names prev = 0→(cleanOn base out f).bulk≤out.bulk + f.bulk + 3000 * f.count:=by
 intro f
 induction f with
 | nil =>
  intro _ _ out _
  show out.bulk≤out.bulk + 0 + 3000 * 0
  omega
 | node n a t k r ihk ihr =>
  intro names prev out h
  obtain ⟨g1,g2,g3,g4⟩:=(checkF_node ..).1 h
  have e : Fo.bulk (.node n a t k r) = 1 + n.length + t.length + Fo.atB a + Fo.bulk k + Fo.bulk r:=rfl
  have e2 : Fo.count (.node n a t k r) = k.count + r.count + 1:=rfl
  rw [e,e2]
  unfold cleanOn
  by_cases hn : n = []
  ·rw [if_pos hn]
   have h1:=ihr names _ (Fo.snoc n a t k out) g4
   have h2:=Fo.snoc_bulk out n a t k
   omega
  rw [if_neg hn]
  by_cases hg : goneB n = true
  ·rw [if_pos hg]
   have h1:=ihr names _ out g4
   omega
  rw [if_neg hg]
  simp only
  have hk:=ihk _ _ .nil g3
  have e0 : Fo.bulk .nil = 0:=rfl
  by_cases hal : allowedB n = true
  ·rw [if_neg (by simp [hal])]
   by_cases hi : n = [105,109,103]∧hasAt (cleanAts base n a) [115,114,99] = false
   ·rw [if_pos hi]
    have h1:=ihr names _ out g4
    omega
   ·rw [if_neg hi]
    obtain ⟨q1,q2,q3,q4,q5⟩:=(nodeE_el _ _ hn _ _ _).1 g1
    have h1:=ihr names _ (Fo.snoc n (cleanAts base n a) [] (cleanOn base .nil k) out) g4
    have h2:=Fo.snoc_bulk out n (cleanAts base n a) [] (cleanOn base .nil k)
    have h3:=cleanAts_one base n a [] q4
    have h4 : Fo.atB (cleanAts base n a)≤Fo.atB a + 3000:=h3
    simp only [List.length_nil] at h2
    omega
  ·rw [if_pos (by simpa using hal)]
   have h1:=ihr names _ (Fo.joins out (cleanOn base .nil k)) g4
   have h2:=Fo.joins_bulk (cleanOn base .nil k) out
   omega
theorem clean_bulk2 (base : Bs) (f : Fo) (h : checkT f = 0) : (clean base f).bulk≤f.bulk + 9000000:=by
 have hr:=checkT_right f h
 unfold checkT at h
 by_cases q : 3000 < (sizeF 8 f).1 ∨ 8 < (sizeF 8 f).2
 ·rw [if_pos q] at h;cases h
 ·rw [if_neg q] at h
  have q1 : (sizeF 8 f).1≤3000:=Nat.not_lt.1 fun e=>q (.inl e)
  have q2 : (sizeF 8 f).2≤8:=Nat.not_lt.1 fun e=>q (.inr e)
  have d:=size_from f 8 hr q2
  rw [size_to f 8 hr d] at q1
  simp only at q1
  have:=cleanOn_bulk2 base f [] false .nil h
  have e0 : Fo.bulk .nil = 0:=rfl
  unfold clean
  omega
end Mk
