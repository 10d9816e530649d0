/- Contract of the law's allowed at a tree in which all is such as may be. Condition: at most 33554432 nodes, attributes and letters. -/
import Derived.Test.YteidgdpaolieaaaGreatDoorYMkTok8
import Derived.Test.YteidgdpaolieaaaGreatDoorYRfH
import Derived.Test.YteidgdpaolieaaaGreatDoorYMkHtml
import Derived.Test.YteidgdpaolieaaaGreatDoorYMkSame
import Derived.Test.YteidgdpaolieaaaGreatDoorYMkClean5
import Derived.Test.YteidgdpaolieaaaGreatDoorYMkByt1
import Derived.Deep.RegionHeld3
import Derived.Test.YteidgdpaolieaaaGreatDoorYRfK
set_option linter.unusedVariables false
set_option linter.unusedSimpArgs false
namespace Mk
end Mk
namespace Go.Proofs.YteidgdpaolieaaaGreatDoor
open Go.RowKit
end Go.Proofs.YteidgdpaolieaaaGreatDoor

/- Contracts of the program's safe and Is: is all clean in a tree. Condition: at most 33554432 nodes, attributes and letters. -/
namespace Mk
def badOne (n : Bs) (a : List At) (k : Fo) : Bool:=(decide (n ≠ []) && (!allowedB n || badAts n a || (decide (n = [105,109,103]) && !hasAt a [115,114,99]))) || !safeF k
theorem safe_node (n : Bs) (a : List At) (t : Bs) (k r : Fo) : safeF (.node n a t k r) = (!badOne n a k && safeF r):=rfl
theorem atB_val {a : At} {l : List At} (h : a ∈ l) : a.v.length≤Fo.atB l:=by
 have:=atB_mem h
 omega
/-- is one of some nodes bad? -/
def anyBad : Fo→Bool | .nil=>false | .node n a _ k r=>badOne n a k || anyBad r
theorem safe_any : ∀ f : Fo,safeF f = !anyBad f
 | .nil=>rfl
 | .node n a t k r=>by
  rw [safe_node,safe_any r]
  show _ = !(badOne n a k || anyBad r)
  cases badOne n a k <;> rfl
end Mk
namespace Go.Proofs.YteidgdpaolieaaaGreatDoor
open Go.RowKit
theorem asks_bad (P : Nat) (n : List UInt8) (l : List Mk.At) (w : World) (hP : P < w.heap.size) (hc : w.cell? ⟨P,0,none⟩ = some (.string (st n))) (hv : ∀ a ∈ l,a.v.length≤33554432) : AsksA 60 #[.pointer (some ⟨P,0,none⟩)] (fun a=>!Mk.mayB n a.n || (Mk.linkB a.n && !Mk.goodLink a.v)) l w:=by
 intro w1 hb a ha
 have hva:=hv a ha
 have c0 : w1.cell? ⟨P,0,none⟩ = some (.string (st n)):=(hb.cell (p:=⟨P,0,none⟩) hP).trans hc
 have hP1 : P < w1.heap.size:=Nat.lt_of_lt_of_le hP hb.size
 have hal:=(Below.refl w1.heap.size w1).alloc (Nat.le_refl _) (.cells #[.string (st a.n),.string (st a.v)] 58)
 have PB:=Lib.hid (Blk.new w1 58 #[.string (st a.n),.string (st a.v)])
 have c1 : (w1.alloc (.cells #[.string (st a.n),.string (st a.v)] 58)).cell? ⟨P,0,none⟩ = some (.string (st n)):=(hal.cell (p:=⟨P,0,none⟩) hP1).trans c0
 have HA:=Lib.hid (cl_attr n a (w1.alloc (.cells #[.string (st a.n),.string (st a.v)] 58)))
 have HL:=Lib.hid (fun W=>cl_link a.n W)
 have HI:=Lib.hid (fun W=>url_Is (st a.v) W (by rw [st_size];omega))
 have hlen : (st a.v).size = a.v.length:=st_size _
 have HAL:=Lib.hid hal
 clear hal hc hv hva c0
 unfold atV at HA
 unfold atV
 go_enter Tryz.func60,Tryz.ntmps60
 go_wp2_with fail
 refine HA.out.mono ?_
 rintro e w2 ⟨rfl,hb2⟩
 have HB2:=Lib.hid (HAL.out.trans (hb2.mono HAL.out.size))
 have PB2:=Lib.hid (Blk.below PB.out hb2 (Blk.lt PB.out))
 clear hb2 HA PB HAL c1
 obtain ⟨bm,hbm⟩ : ∃ b,Mk.mayB n a.n = b:=⟨_,rfl⟩
 have HBM:=Lib.hid hbm
 rw [hbm]
 clear hbm
 cases bm with
 | false =>
  go_wp2_with fail
  go_ret
  exact ⟨ret_bool (by rw [HBM.out];rfl),HB2.out⟩
 | true =>
  have p0 : w2.cell? ⟨w1.heap.size,0,none⟩ = some (.string (st a.n)):=Blk.cell PB2.out 0
  have p1 : w2.cell? ⟨w1.heap.size,1,none⟩ = some (.string (st a.v)):=Blk.cell PB2.out 1
  obtain ⟨bl,hbl⟩ : ∃ b,Mk.linkB a.n = b:=⟨_,rfl⟩
  rw [hbl] at HL
  have HBN:=Lib.hid hbl
  clear hbl
  go_wp2_with fail
  refine (HL.out _).mono ?_
  rintro e w3 ⟨rfl,hw3⟩
  subst w3
  cases bl with
  | false =>
   go_wp2_with fail
   go_ret
   exact ⟨ret_bool (by rw [HBM.out,HBN.out];rfl),HB2.out⟩
  | true =>
   go_wp2_with fail
   refine (HI.out _).mono ?_
   rintro e w4 ⟨rfl,hb4⟩
   have p4 : w4.cell? ⟨w1.heap.size,1,none⟩ = some (.string (st a.v)):=(hb4.cell (p:=⟨w1.heap.size,1,none⟩) (Blk.lt PB2.out)).trans p1
   have HB4:=Lib.hid (HB2.out.trans (hb4.mono HB2.out.size))
   rw [show (st a.v).data.toList = a.v from rfl]
   have hgl : Mk.goodLink a.v = (Mg.isSafe a.v && decide (a.v.length≤3000)):=rfl
   obtain ⟨bs,hbs⟩ : ∃ b,Mg.isSafe a.v = b:=⟨_,rfl⟩
   rw [hbs] at hgl ⊢
   clear hbs HB2 hb4 HI HL PB2 p0 p1
   cases bs with
   | false =>
    have HG:=Lib.hid hgl
    clear hgl
    go_wp2_with fail
    go_ret
    exact ⟨ret_bool (by rw [HBM.out,HBN.out,HG.out];rfl),HB4.out⟩
   | true =>
    by_cases hl : 3000 < a.v.length
    ·have HG : Hid (Mk.goodLink a.v = false):=by show _ = _;rw [hgl];simp;omega
     clear hgl
     go_wp2_with fail
     go_ret
     exact ⟨ret_bool (by rw [HBM.out,HBN.out,HG.out];first | rfl | simp;omega),HB4.out⟩
    ·have HG : Hid (Mk.goodLink a.v = true):=by show _ = _;rw [hgl];simp;omega
     clear hgl
     go_wp2_with fail
     go_ret
     exact ⟨ret_bool (by rw [HBM.out,HBN.out,HG.out];first | rfl | simp;omega),HB4.out⟩
theorem eg_bad (args : Array Value) (w : World) : (callFunc 60 args).run Tryz.prog w = .ok (.enter 60 args) w:=run_callFunc_enter' Tryz.func60 (by kernel_rfl) rfl _ _
end Go.Proofs.YteidgdpaolieaaaGreatDoor

/- Contracts of the program's safe and Is, behind those of slices.IndexFunc and slices.ContainsFunc over nodes. Condition: at most 33554432 nodes, attributes and letters. -/
namespace Go.Proofs.YteidgdpaolieaaaGreatDoor
open Go.RowKit
def SafeC (f : Mk.Fo) : Prop:=∀ (v : Value) (K : Nat→Prop) (w : World),FoV w K v f→(∀ b,K b→b < w.heap.size)→Calls Tryz.prog 27 #[v] w fun e w'=>e = .returned (.bool (Mk.safeF f))∧Below w.heap.size w w'
theorem eg_safe1 (args : Array Value) (w : World) : (callFunc 58 args).run Tryz.prog w = .ok (.enter 58 args) w:=run_callFunc_enter' Tryz.func58 (by kernel_rfl) rfl _ _
set_option maxHeartbeats 4000000 in
set_option maxRecDepth 100000 in
theorem cl_safe1 (n t : List UInt8) (a : List Mk.At) (k : Mk.Fo) (hk : SafeC k) (va vk : Value) (K : Nat→Prop) (w : World) (hva : AtsV w K va a) (hvk : FoV w K vk k) (hK : ∀ b,K b→b < w.heap.size) (ha : Mk.Fo.atB a≤33554432) :
  Calls Tryz.prog 58 #[nodeV n va t vk] w fun e w'=>e = .returned (.bool (Mk.badOne n a k))∧Below w.heap.size w w':=by
 have hst : ∀ l : List UInt8,(st l).toList = l:=fun l=>Lib.toList_data _
 obtain ⟨aoa,capa,hva1,_⟩:=id hva
 obtain ⟨aok,capk,xsk,hvk1,_⟩:=id hvk
 subst hva1
 subst hvk1
 have hal:=(Below.refl w.heap.size w).alloc (Nat.le_refl _) (.cells #[.string (st n),.slice aoa a.length capa,.string (st t),.slice aok k.len capk] 52)
 have PB:=Blk.new w 52 #[.string (st n),.slice aoa a.length capa,.string (st t),.slice aok k.len capk]
 have hatl:=Mk.atB_len a
 have HCF:=Lib.hid (sl_ContainsFunc 60 #[.pointer (some ⟨w.heap.size,0,none⟩)] (fun a=>!Mk.mayB n a.n || (Mk.linkB a.n && !Mk.goodLink a.v)) eg_bad a (.slice aoa a.length capa) K (w.alloc (.cells #[.string (st n),.slice aoa a.length capa,.string (st t),.slice aok k.len capk] 52)) (hva.below hK hal) (fun b q=>Nat.lt_of_lt_of_le (hK b q) hal.size) (by omega) (asks_bad w.heap.size n a _ PB.lt (PB.cell 0) (fun x hx=>by have:=Mk.atB_val hx;omega)))
 have HBA : Hid (a.any (fun a=>!Mk.mayB n a.n || (Mk.linkB a.n && !Mk.goodLink a.v)) = Mk.badAts n a):=rfl
 have HBO : Hid (Mk.badOne n a k = ((decide (n ≠ []) && (!Mk.allowedB n || Mk.badAts n a || (decide (n = [105,109,103]) && !Mk.hasAt a [115,114,99]))) || !Mk.safeF k)):=rfl
 have HPB:=Lib.hid PB
 have HAL:=Lib.hid hal
 have HVA:=Lib.hid hva
 have HVK:=Lib.hid hvk
 have HK:=Lib.hid hK
 have HSK:=Lib.hid hk
 have hne : (n = []∧n.isEmpty = true) ∨ (n ≠ []∧n.isEmpty = false):=by
  cases n with
  | nil=>exact .inl ⟨rfl,rfl⟩
  | cons _ _=>exact .inr ⟨by simp,rfl⟩
 have him : (n = [105,109,103]∧(n == [105,109,103]) = true) ∨ (n ≠ [105,109,103]∧(n == [105,109,103]) = false):=by
  by_cases h : n = [105,109,103]
  ·exact .inl ⟨h,beq_iff_eq.2 h⟩
  ·exact .inr ⟨h,beq_eq_false_iff_ne.2 h⟩
 have HNE:=Lib.hid hne
 have HIM:=Lib.hid him
 clear hva hvk hK hk hal PB hne him
 unfold nodeV
 go_enter Tryz.func58,Tryz.ntmps58
 go_wp2_with fail
 refine HCF.out.mono ?_
 rintro e w2 ⟨rfl,hb2⟩
 rw [HBA.out]
 have HB2:=Lib.hid (HAL.out.trans (hb2.mono HAL.out.size))
 have hP2:=Blk.below HPB.out hb2 (Blk.lt HPB.out)
 have HP2:=Lib.hid hP2
 have p0 : w2.cell? ⟨w.heap.size,0,none⟩ = some (.string (st n)):=Blk.cell hP2 0
 have p3 : w2.cell? ⟨w.heap.size,3,none⟩ = some (.slice aok k.len capk):=Blk.cell hP2 3
 clear hb2 HCF HPB hP2
  -- the kids
 have HTAIL : Hid (∀ W,Below w.heap.size w W→Calls Tryz.prog 27 #[.slice aok k.len capk] W fun e w'=>e = .returned (.bool (Mk.safeF k))∧Below w.heap.size w w'):=fun W hW=>(HSK.out (.slice aok k.len capk) K W (HVK.out.below HK.out hW) (fun b q=>Nat.lt_of_lt_of_le (HK.out b q) hW.size)).mono (fun e w' ⟨h1,h2⟩=>⟨h1,hW.trans (h2.mono hW.size)⟩)
 obtain ⟨bb,hbb⟩ : ∃ b,Mk.badAts n a = b:=⟨_,rfl⟩
 obtain ⟨bk,hbk⟩ : ∃ b,Mk.safeF k = b:=⟨_,rfl⟩
 rw [hbk] at HTAIL
 rw [hbb,hbk] at HBO
 rw [hbb]
 clear hbb hbk
 rcases HNE.out with ⟨hn,he⟩ | ⟨hn,he⟩
 ·have HQ : Hid (Mk.badOne n a k = !bk):=by show _ = _;rw [HBO.out,hn];rfl
  clear hn HBO
  go_wp2_with fail
  refine (HTAIL.out _ HB2.out).mono ?_
  rintro e w3 ⟨rfl,hb3⟩
  have HB3:=Lib.hid hb3
  clear hb3 HTAIL
  go_wp2_with fail
  go_ret
  exact ⟨ret_bool (by rw [HQ.out]),HB3.out⟩
 ·have HQ : Hid (Mk.badOne n a k = ((!Mk.allowedB n || bb || (decide (n = [105,109,103]) && !Mk.hasAt a [115,114,99])) || !bk)):=by show _ = _;rw [HBO.out,show decide (n ≠ []) = true from decide_eq_true hn];rfl
  have HALW:=Lib.hid (cl_allowed n w2)
  obtain ⟨bw,hbw⟩ : ∃ b,Mk.allowedB n = b:=⟨_,rfl⟩
  rw [hbw] at HALW HQ
  clear hn hbw HBO
  go_wp2_with fail
  refine HALW.out.mono ?_
  rintro e w3 ⟨rfl,hb3⟩
  have HB3:=Lib.hid (HB2.out.trans (hb3.mono HB2.out.size))
  have hP3:=Blk.below HP2.out hb3 (Blk.lt HP2.out)
  have q0 : w3.cell? ⟨w.heap.size,0,none⟩ = some (.string (st n)):=Blk.cell hP3 0
  have q1 : w3.cell? ⟨w.heap.size,1,none⟩ = some (.slice aoa a.length capa):=Blk.cell hP3 1
  have q3 : w3.cell? ⟨w.heap.size,3,none⟩ = some (.slice aok k.len capk):=Blk.cell hP3 3
  have HP3:=Lib.hid hP3
  clear hb3 HALW hP3 HB2 HP2 p0 p3
  cases bw with
  | false =>
   have HQ2 : Hid (Mk.badOne n a k = true):=by show _ = _;rw [HQ.out];rfl
   clear HQ HTAIL
   go_wp2_with fail
   go_ret
   exact ⟨ret_bool (by rw [HQ2.out]),HB3.out⟩
  | true =>
   cases bb with
   | true =>
    have HQ2 : Hid (Mk.badOne n a k = true):=by show _ = _;rw [HQ.out];rfl
    clear HQ HTAIL
    go_wp2_with fail
    go_ret
    exact ⟨ret_bool (by rw [HQ2.out]),HB3.out⟩
   | false =>
    rcases HIM.out with ⟨hi,hie⟩ | ⟨hi,hie⟩
    ·have HHA:=Lib.hid (cl_has a [115,114,99] (.slice aoa a.length capa) K w3 (HVA.out.below HK.out HB3.out) (fun b q=>Nat.lt_of_lt_of_le (HK.out b q) HB3.out.size) (by omega))
     obtain ⟨bh,hbh⟩ : ∃ b,Mk.hasAt a [115,114,99] = b:=⟨_,rfl⟩
     rw [hbh] at HHA HQ
     have HQ2 : Hid (Mk.badOne n a k = (!bh || !bk)):=by show _ = _;rw [HQ.out,show decide (n = [105,109,103]) = true from decide_eq_true hi];cases bh <;> rfl
     clear HQ hi hbh
     go_wp2_with fail
     refine HHA.out.mono ?_
     rintro e w4 ⟨rfl,hb4⟩
     have HB4:=Lib.hid (HB3.out.trans (hb4.mono HB3.out.size))
     have r3 : w4.cell? ⟨w.heap.size,3,none⟩ = some (.slice aok k.len capk):=(hb4.cell (p:=⟨w.heap.size,3,none⟩) (Blk.lt HP3.out)).trans q3
     clear hb4 HHA HB3 HP3 q0 q1 q3
     cases bh with
     | false =>
      have HQ3 : Hid (Mk.badOne n a k = true):=by show _ = _;rw [HQ2.out];rfl
      clear HQ2 HTAIL
      go_wp2_with fail
      go_ret
      exact ⟨ret_bool (by rw [HQ3.out]),HB4.out⟩
     | true =>
      have HQ3 : Hid (Mk.badOne n a k = !bk):=by show _ = _;rw [HQ2.out];rfl
      clear HQ2
      go_wp2_with fail
      refine (HTAIL.out _ HB4.out).mono ?_
      rintro e w5 ⟨rfl,hb5⟩
      have HB5:=Lib.hid hb5
      clear hb5 HTAIL
      go_wp2_with fail
      go_ret
      exact ⟨ret_bool (by rw [HQ3.out]),HB5.out⟩
    ·have HQ3 : Hid (Mk.badOne n a k = !bk):=by show _ = _;rw [HQ.out,show decide (n = [105,109,103]) = false from decide_eq_false hi];rfl
     clear HQ hi
     go_wp2_with fail
     refine (HTAIL.out _ HB3.out).mono ?_
     rintro e w5 ⟨rfl,hb5⟩
     have HB5:=Lib.hid hb5
     clear hb5 HTAIL q0 q1 q3 HB3 HP3
     go_wp2_with fail
     go_ret
     exact ⟨ret_bool (by rw [HQ3.out]),HB5.out⟩
set_option maxHeartbeats 2000000 in
theorem sn_IndexFunc (f : Mk.Fo) (hsub : ∀ k n a t kk r,f.drop k = .node n a t kk r→SafeC kk) (hb : f.bulk≤33554432) (v : Value) (K : Nat→Prop) (w : World) (hv : FoV w K v f) (hK : ∀ b,K b→b < w.heap.size) :
  Calls Tryz.prog 99 #[v,.func (.func 58) #[] #[]] w fun e w'=>∃ i : Int,e = .returned (.int .i64 i)∧(decide (0≤i) = Mk.anyBad f)∧Below w.heap.size w w':=by
 obtain ⟨g,o,cap,hv1,hlen,hat⟩:=hv.at_
 have HAT:=Lib.hid hat
 have HSB:=Lib.hid hsub
 have eg:=eg_safe1
 have hgl:=Mk.Fo.len_bulk f
 clear hat hsub hv
 rcases hv1 with ⟨hv1,hKg⟩ | ⟨ao,hv1,hnil⟩
 ·subst hv1
  have hgm:=hK g hKg
  go_enter Tryz.func99,Tryz.ntmps99
  go_wp2_with fail
  go_loopw [8] (fun i wr=>∃ k : Nat,k≤f.len∧i = .int .i64 k∧Hid (Mk.anyBad f = Mk.anyBad (f.drop k))∧Hid (Below w.heap.size w wr)) (fun i _=>f.len - (intOf i).toNat)
  case atStart=>exact ⟨0,Nat.zero_le _,rfl,by show _ = _;rw [Mk.Fo.drop_zero],Below.refl _ _⟩
  case round =>
   obtain ⟨k,hk,rfl,HA,BL⟩:=hrel
   by_cases hlt : k < f.len
   ·obtain ⟨n,a,t,kk,r,hd,hd1⟩:=Mk.Fo.drop_lt f k hlt
    obtain ⟨va,vk,c0,c1,c2,c3,hva,hvk⟩:=HAT.out k n a t kk r hd
    rw [← BL.out.cell (p:=⟨g,_,none⟩) hgm] at c0 c1 c2 c3
    obtain ⟨aoa,capa,hva1,_⟩:=id hva
    obtain ⟨aok,capk,xsk,hvk1,_⟩:=id hvk
    subst hva1
    subst hvk1
    have hdb : (f.drop k).bulk = 1 + n.length + t.length + Mk.Fo.atB a + kk.bulk + r.bulk:=by rw [hd];rfl
    have hdb2:=Mk.Fo.drop_bulk f k
    have hcall:=cl_safe1 n t a kk (HSB.out k n a t kk r hd) (.slice aoa a.length capa) (.slice aok kk.len capk) K wr (hva.below hK BL.out) (hvk.below hK BL.out) (fun b q=>Nat.lt_of_lt_of_le (hK b q) BL.out.size) (by omega)
    have HD : Hid (Mk.anyBad f = (Mk.badOne n a kk || Mk.anyBad (f.drop (k + 1)))):=by show _ = _;rw [HA.out,hd,hd1];rfl
    generalize Mk.badOne n a kk = bb at hcall HD
    unfold nodeV at hcall
    have HCALL:=Lib.hid hcall
    clear hcall HAT HSB hva hvk hd hd1 hdb hdb2
    cases bb with
    | true =>
     go_wp2_with fail
     refine HCALL.out.mono ?_
     rintro e w1 ⟨rfl,hb1⟩
     have BL1:=BL.out.trans (hb1.mono BL.out.size)
     go_wp2_with fail
     go_ret
     exact ⟨k,rfl,by rw [HD.out,Bool.true_or];simp,BL1⟩
    | false =>
     go_wp2_with fail
     refine HCALL.out.mono ?_
     rintro e w1 ⟨rfl,hb1⟩
     have BL1:=BL.out.trans (hb1.mono BL.out.size)
     go_wp2_with fail
     go_roundw
     case rel=>exact ⟨k + 1,by omega,by go_num,by show _ = _;rw [HD.out,Bool.false_or],BL1⟩
     case measure=>simp [intOf];omega
   ·have hkl : k = f.len:=by omega
    have HN : Hid (Mk.anyBad f = false):=by show _ = _;rw [HA.out,hkl,Mk.Fo.drop_len];rfl
    clear HA HAT HSB
    go_wp2_with fail
    go_ret
    exact ⟨-1,rfl,by rw [HN.out];rfl,BL.out⟩
 ·subst hnil
  subst hv1
  clear HAT HSB
  go_enter Tryz.func99,Tryz.ntmps99
  go_wp2_with fail
  go_loopw [8] (fun i wr=>i = .int .i64 0∧wr = w) (fun _ _=>0)
  case atStart=>exact ⟨rfl,rfl⟩
  case round =>
   obtain ⟨rfl,rfl⟩:=hrel
   go_wp2_with fail
   go_ret
   exact ⟨-1,rfl,rfl,Below.refl _ _⟩
set_option maxHeartbeats 2000000 in
theorem cl_safe (N : Nat) : ∀ f : Mk.Fo,f.bulk < N→f.bulk≤33554432→SafeC f:=by
 induction N with
 | zero=>intro f hN;omega
 | succ N ih =>
  intro f hN hb v K w hv hK
  have HI:=Lib.hid (sn_IndexFunc f (fun k n a t kk r hd=>ih kk (by have h1:=Mk.Fo.drop_bulk f k;rw [hd] at h1;have e : Mk.Fo.bulk (.node n a t kk r) = 1 + n.length + t.length + Mk.Fo.atB a + Mk.Fo.bulk kk + Mk.Fo.bulk r:=rfl;omega) (by have h1:=Mk.Fo.drop_bulk f k;rw [hd] at h1;have e : Mk.Fo.bulk (.node n a t kk r) = 1 + n.length + t.length + Mk.Fo.atB a + Mk.Fo.bulk kk + Mk.Fo.bulk r:=rfl;omega)) hb v K w hv hK)
  have HCN : Hid (Calls Tryz.prog 57 #[v,.func (.func 58) #[] #[]] w fun e w'=>e = .returned (.bool (Mk.anyBad f))∧Below w.heap.size w w'):=by
   show Calls _ _ _ _ _
   go_enter Tryz.func57,Tryz.ntmps57
   go_wp2_with fail
   refine HI.out.mono ?_
   rintro e w1 ⟨i,rfl,hi,hb⟩
   have HB:=Lib.hid hb
   have H2:=Lib.hid hi
   clear hb hi
   go_wp2_with fail
   go_ret
   exact ⟨ret_bool H2.out,HB.out⟩
  have HSA:=Lib.hid (Mk.safe_any f)
  clear hv hK ih HI
  go_enter Tryz.func27,Tryz.ntmps27
  go_wp2_with fail
  refine HCN.out.mono ?_
  rintro e w1 ⟨rfl,hb1⟩
  have HB:=Lib.hid hb1
  clear hb1 HCN
  go_wp2_with fail
  go_ret
  exact ⟨ret_bool (by rw [HSA.out]),HB.out⟩
set_option maxHeartbeats 1000000 in
theorem cl_Is (f : Mk.Fo) (v : Value) (K : Nat→Prop) (w : World) (hf : f.bulk≤33554432) (hv : FoV w K v f) (hK : ∀ b,K b→b < w.heap.size) :
  Calls Tryz.prog 8 #[v] w fun e w'=>e = .returned (.tuple #[.bool (decide (Mk.checkT f = 0) && Mk.safeF f),.int .i64 (Mk.checkT f)])∧Below w.heap.size w w':=by
 have HC:=Lib.hid (tr_Check f v K w hf hv hK)
 have HV:=Lib.hid hv
 have HK:=Lib.hid hK
 obtain ⟨ao,cap,xs,hv1,_⟩:=hv
 subst hv1
 generalize Mk.checkT f = c at HC
 clear hK
 go_enter Tryz.func8,Tryz.ntmps8
 go_wp2_with fail
 refine HC.out.mono ?_
 rintro e w1 ⟨rfl,hb1⟩
 have L1:=Lib.hid hb1
 clear HC hb1
 by_cases hc : c = 0
 ·subst hc
  have HS:=Lib.hid (cl_safe (f.bulk + 1) f (Nat.lt_succ_self _) hf (.slice ao f.len cap) K w1 (HV.out.below HK.out L1.out) (fun b q=>Nat.lt_of_lt_of_le (HK.out b q) L1.out.size))
  go_wp2_with fail
  refine HS.out.mono ?_
  rintro e w2 ⟨rfl,hb2⟩
  have L2:=Lib.hid (L1.out.trans (hb2.mono L1.out.size))
  clear HS hb2
  go_wp2_with fail
  go_ret2
  exact ⟨by simp,L2.out⟩
 ·have hcb : (c == 0) = false:=beq_eq_false_iff_ne.2 hc
  have HC2:=Lib.hid hc
  clear hc
  go_wp2_with fail
  go_ret2
  exact ⟨by have:=HC2.out;simp [this],L1.out⟩
end Go.Proofs.YteidgdpaolieaaaGreatDoor

/- Contracts of the law's textIn and page. Condition: at most 33554432 nodes, attributes and letters. -/
namespace Mk
/-- the page of the law. -/
def page : Fo:=.node [112] [] [] (.node [] [] [97] .nil (.node [98,114] [] [] .nil .nil)) (.node [117,108] [] [] (.node [108,105] [] [] (.node [] [] [98] .nil .nil) (.node [108,105] [] [] (.node [] [] [99] .nil .nil) .nil)) .nil)
end Mk
namespace Go.Proofs.YteidgdpaolieaaaGreatDoor
open Go.RowKit
theorem FoV.of_blk {w : World} {g cap : Nat} {K : Nat→Prop} {f : Mk.Fo} {cs : List Value} (hb : Blk w g 52 cs.toArray) (hK : K g) (hc : FCells w K f cs) (hl : f.len≤maxLen) : FoV w K (.slice (some ⟨g,0,none⟩) f.len cap) f :=
 ⟨_,cap,cs,rfl,.inr ⟨g,0,rfl,hK,fun i v q=>by rw [Nat.zero_add];exact (Blk.cell hb i).trans (by simpa using q)⟩,hc,hl⟩
def nodeCells (n t : List UInt8) (vk : Value) : List Value:=[.string (st n),.slice none 0 0,.string (st t),vk]
theorem FCells.one {w : World} {K : Nat→Prop} {n t : List UInt8} {k r : Mk.Fo} {ao : Option Addr} {cap : Nat} {ys : List Value} (hk : FoV w K (.slice ao k.len cap) k) (hr : FCells w K r ys) : FCells w K (.node n [] t k r) (nodeCells n t (.slice ao k.len cap)++ys):=by
 obtain ⟨ao',cap',xs,h1,h2,h3,h4⟩:=hk
 injection h1 with e1 e2 e3
 subst e1
 exact ⟨.slice none 0 0,ao,cap,xs,ys,rfl,AtsV.nil _ _,h2,h4,h3,hr⟩
theorem FoV.nil0 (w : World) (K : Nat→Prop) : FoV w K (.slice none (Mk.Fo.nil).len 0) .nil:=⟨none,0,[],rfl,.inl rfl,rfl,Nat.zero_le _⟩
theorem FCells.nil0 (w : World) (K : Nat→Prop) : FCells w K .nil []:=rfl
theorem page_mem {w : World} {s : Nat} {K : Nat→Prop} (hK : ∀ i,i < 5→K (s + i))
  (h0 : Blk w s 52 (nodeCells [] [97] (.slice none 0 0)++(nodeCells [98,114] [] (.slice none 0 0)++[])).toArray)
  (h1 : Blk w (s + 1) 52 (nodeCells [] [98] (.slice none 0 0)++[]).toArray)
  (h2 : Blk w (s + 2) 52 (nodeCells [] [99] (.slice none 0 0)++[]).toArray)
  (h3 : Blk w (s + 3) 52 (nodeCells [108,105] [] (.slice (some ⟨s + 1,0,none⟩) 1 1)++(nodeCells [108,105] [] (.slice (some ⟨s + 2,0,none⟩) 1 1)++[])).toArray)
  (h4 : Blk w (s + 4) 52 (nodeCells [112] [] (.slice (some ⟨s,0,none⟩) 2 2)++(nodeCells [117,108] [] (.slice (some ⟨s + 3,0,none⟩) 2 2)++[])).toArray) :
  FoV w K (.slice (some ⟨s + 4,0,none⟩) 2 2) Mk.page:=by
 have m1 : 1≤maxLen:=by decide
 have m2 : 2≤maxLen:=by decide
 have f0 : FoV w K (.slice (some ⟨s,0,none⟩) 2 2) (.node [] [] [97] .nil (.node [98,114] [] [] .nil .nil)):=FoV.of_blk h0 (hK 0 (by decide)) (FCells.one (k:=.nil) (FoV.nil0 w K) (FCells.one (k:=.nil) (FoV.nil0 w K) (FCells.nil0 w K))) m2
 have f1 : FoV w K (.slice (some ⟨s + 1,0,none⟩) 1 1) (.node [] [] [98] .nil .nil):=FoV.of_blk h1 (hK 1 (by decide)) (FCells.one (k:=.nil) (FoV.nil0 w K) (FCells.nil0 w K)) m1
 have f2 : FoV w K (.slice (some ⟨s + 2,0,none⟩) 1 1) (.node [] [] [99] .nil .nil):=FoV.of_blk h2 (hK 2 (by decide)) (FCells.one (k:=.nil) (FoV.nil0 w K) (FCells.nil0 w K)) m1
 have f3 : FoV w K (.slice (some ⟨s + 3,0,none⟩) 2 2) (.node [108,105] [] [] (.node [] [] [98] .nil .nil) (.node [108,105] [] [] (.node [] [] [99] .nil .nil) .nil)):=FoV.of_blk h3 (hK 3 (by decide)) (FCells.one (k:=.node [] [] [98] .nil .nil) f1 (FCells.one (k:=.node [] [] [99] .nil .nil) f2 (FCells.nil0 w K))) m2
 exact FoV.of_blk h4 (hK 4 (by decide)) (FCells.one (k:=.node [] [] [97] .nil (.node [98,114] [] [] .nil .nil)) f0 (FCells.one (k:=.node [108,105] [] [] (.node [] [] [98] .nil .nil) (.node [108,105] [] [] (.node [] [] [99] .nil .nil) .nil)) f3 (FCells.nil0 w K))) m2
set_option maxHeartbeats 2000000 in
set_option maxRecDepth 100000 in
theorem lw_page (w : World) :
  Calls Tryz.prog 41 #[] w fun e w'=>∃ v,e = .returned v∧FoV w' (fun b=>w.heap.size≤b∧b < w'.heap.size) v Mk.page∧Below w.heap.size w w':=by
 go_enter Tryz.func41,Tryz.ntmps41
 go_wp2_with fail
 go_ret
 refine ⟨_,rfl,?_,?_⟩
 ·have b0:=Blk.new w 52 (nodeCells [] [97] (.slice none 0 0)++(nodeCells [98,114] [] (.slice none 0 0)++[])).toArray
  have b1:=Blk.new (w.alloc (.cells (nodeCells [] [97] (.slice none 0 0)++(nodeCells [98,114] [] (.slice none 0 0)++[])).toArray 52)) 52 (nodeCells [] [98] (.slice none 0 0)++[]).toArray
  have b2:=Blk.new ((w.alloc (.cells (nodeCells [] [97] (.slice none 0 0)++(nodeCells [98,114] [] (.slice none 0 0)++[])).toArray 52)).alloc (.cells (nodeCells [] [98] (.slice none 0 0)++[]).toArray 52)) 52 (nodeCells [] [99] (.slice none 0 0)++[]).toArray
  have b3:=Blk.new (((w.alloc (.cells (nodeCells [] [97] (.slice none 0 0)++(nodeCells [98,114] [] (.slice none 0 0)++[])).toArray 52)).alloc (.cells (nodeCells [] [98] (.slice none 0 0)++[]).toArray 52)).alloc (.cells (nodeCells [] [99] (.slice none 0 0)++[]).toArray 52)) 52 (nodeCells [108,105] [] (.slice (some ⟨w.heap.size + 1,0,none⟩) 1 1)++(nodeCells [108,105] [] (.slice (some ⟨w.heap.size + 2,0,none⟩) 1 1)++[])).toArray
  have b4:=Blk.new ((((w.alloc (.cells (nodeCells [] [97] (.slice none 0 0)++(nodeCells [98,114] [] (.slice none 0 0)++[])).toArray 52)).alloc (.cells (nodeCells [] [98] (.slice none 0 0)++[]).toArray 52)).alloc (.cells (nodeCells [] [99] (.slice none 0 0)++[]).toArray 52)).alloc (.cells (nodeCells [108,105] [] (.slice (some ⟨w.heap.size + 1,0,none⟩) 1 1)++(nodeCells [108,105] [] (.slice (some ⟨w.heap.size + 2,0,none⟩) 1 1)++[])).toArray 52)) 52 (nodeCells [112] [] (.slice (some ⟨w.heap.size,0,none⟩) 2 2)++(nodeCells [117,108] [] (.slice (some ⟨w.heap.size + 3,0,none⟩) 2 2)++[])).toArray
  simp only [World.size_alloc] at b1 b2 b3 b4
  exact page_mem (fun i hi=>⟨by omega,by simp only [World.size_alloc];omega⟩) (Blk.alloc (Blk.alloc (Blk.alloc (Blk.alloc b0 _) _) _) _) (Blk.alloc (Blk.alloc (Blk.alloc b1 _) _) _) (Blk.alloc (Blk.alloc b2 _) _) (Blk.alloc b3 _) b4
 ·exact (((((Below.refl _ w).alloc (Nat.le_refl _) _).alloc (by simp) _).alloc (by simp;omega) _).alloc (by simp;omega) _).alloc (by simp;omega) _
end Go.Proofs.YteidgdpaolieaaaGreatDoor

/- Contract of the law's cleanBegun: what must be in any case, is. -/
namespace Mk
def base0 : Bs:=[104,116,116,112,58,47,47,97,47,98]
def s0 : Bs:=[60,115,101,99,116,105,111,110,62,60,112,32,111,110,99,108,105,99,107,61,120,62,97,60,115,99,114,105,112,116,62,98,60,47,115,99,114,105,112,116,62,60,97,32,104,114,101,102,61,99,62,100,60,47,97,62,60,97,32,104,114,101,102,61,39,106,97,118,97,115,99,114,105,112,116,58,101,39,62,102,60,47,97,62,60,105,109,103,62,103]
def want0 : Bs:=[60,112,62,97,60,97,32,104,114,101,102,61,34,104,116,116,112,58,47,47,97,47,99,34,62,100,60,47,97,62,60,97,62,102,60,47,97,62,103,60,47,112,62]
set_option maxRecDepth 100000
theorem html0 : html base0 s0 = want0:=by decide +kernel
theorem fits0 : Fits base0 s0:=⟨by decide,by decide +kernel,by decide +kernel,by decide +kernel,by rw [html0];decide⟩
def short (s : Bs) : Bool:=decide (s.length < 32) && s.all fun b=>(reps.lookup b).isNone
def tokShort (t : Tok) : Bool:=short t.text && t.ats.all fun a=>short a.v
theorem flat0 : (flat (clean base0 (build (toks s0)))).all tokShort = true:=by decide +kernel
theorem page_check : checkT page = 0:=by decide +kernel
theorem page_clean : clean [] page = page:=by decide +kernel
theorem page_safe : safeF page = true:=by decide +kernel
def script : Fo:=.node [115,99,114,105,112,116] [] [] .nil .nil
theorem script_check : checkT script = 0:=by decide +kernel
theorem script_safe : safeF script = false:=by decide +kernel
end Mk
namespace Go.Proofs.YteidgdpaolieaaaGreatDoor
open Go.RowKit
theorem tells_of {s : List UInt8} (h : Mk.short s = true) : Tells s:=by
 unfold Mk.short at h
 rw [Bool.and_eq_true,decide_eq_true_iff,List.all_eq_true] at h
 exact tells_short s h.1 (fun b hb=>Option.isNone_iff_eq_none.1 (h.2 b hb))
theorem tells0 : ∀ t ∈ Mk.flat (Mk.clean Mk.base0 (Mk.build (Mk.toks Mk.s0))),TokTells t:=by
 intro t ht
 have h:=List.all_eq_true.1 Mk.flat0 t ht
 unfold Mk.tokShort at h
 rw [Bool.and_eq_true,List.all_eq_true] at h
 exact ⟨fun _=>tells_of h.1,fun a ha=>tells_of (h.2 a ha)⟩
set_option maxHeartbeats 4000000 in
set_option maxRecDepth 100000 in
theorem lw_cleanBegun (w : World) (hg : Gl w) :
  Calls Tryz.prog 14 #[] w fun e w'=>e = .returned (.bool true)∧Below w.heap.size w w':=by
 have hlt:=hg.lt
 have HH:=Lib.hid (cl_Html Mk.base0 Mk.s0 w hg (by decide) Mk.fits0 tells0)
 rw [Mk.html0,show Mk.want0 = [60,112,62,97,60,97,32,104,114,101,102,61,34,104,116,116,112,58,47,47,97,47,99,34,62,100,60,47,97,62,60,97,62,102,60,47,97,62,103,60,47,112,62] from rfl] at HH
 go_enter Tryz.func14,Tryz.ntmps14
 go_wp2_with fail
 refine HH.out.mono ?_
 rintro e w1 ⟨rfl,hb1⟩
 have B1:=Lib.hid hb1
 clear HH hb1
 go_wp2_with fail
 refine (lw_page w1).mono ?_
 rintro e w2 ⟨v2,rfl,hv2,hb2⟩
 have B2:=Lib.hid (B1.out.trans (hb2.mono B1.out.size))
 have HT:=Lib.hid (cl_Tree [] Mk.page v2 _ w2 (by decide) hv2 (fun b q=>q.2))
 clear hb2 hv2
 go_wp2_with fail
 refine HT.out.mono ?_
 rintro e w3 ⟨v3,c,rfl,hc,_,hv3,hb3⟩
 rw [Mk.page_check,if_neg (by decide),if_neg (by decide)] at hc
 subst hc
 have hv3:=hv3 rfl
 rw [Mk.page_clean] at hv3
 have B3:=Lib.hid (B2.out.trans (hb3.mono B2.out.size))
 have HV3 : Hid (FoV w3 (fun b=>b < w3.heap.size) v3 Mk.page):=hv3.frame (fun b q=>⟨q.elim (fun q=>Nat.lt_of_lt_of_le q.2 hb3.size) (fun q=>q.2),rfl⟩)
 obtain ⟨ao3,cap3,xs3,hv3s,_⟩:=hv3
 subst hv3s
 clear hb3 HT
 go_wp2_with fail
 refine (lw_page w3).mono ?_
 rintro e w4 ⟨v4,rfl,hv4,hb4⟩
 have B4:=Lib.hid (B3.out.trans (hb4.mono B3.out.size))
 have HI:=Lib.hid (cl_Is Mk.page v4 _ w4 (by decide) hv4 (fun b q=>q.2))
 rw [Mk.page_check,Mk.page_safe,show (decide ((0 : Int) = 0) && true) = true from rfl] at HI
 have HV4 : Hid (FoV w4 (fun b=>b < w4.heap.size) (.slice ao3 Mk.page.len cap3) Mk.page):=HV3.out.frame (fun b q=>⟨Nat.lt_of_lt_of_le q hb4.size,hb4.block b q⟩)
 clear hb4 hv4 HV3
 go_wp2_with fail
 refine HI.out.mono ?_
 rintro e w5 ⟨rfl,hb5⟩
 have B5:=Lib.hid (B4.out.trans (hb5.mono B4.out.size))
 have HV5 : Hid (FoV w5 (fun b=>b < w5.heap.size) (.slice ao3 Mk.page.len cap3) Mk.page):=HV4.out.frame (fun b q=>⟨Nat.lt_of_lt_of_le q hb5.size,hb5.block b q⟩)
 clear hb5 HI HV4
 have hal:=(Below.refl w5.heap.size w5).alloc (Nat.le_refl _) (.cells (nodeCells [115,99,114,105,112,116] [] (.slice none 0 0)++[]).toArray 52)
 have HS : FoV (w5.alloc (.cells (nodeCells [115,99,114,105,112,116] [] (.slice none 0 0)++[]).toArray 52)) (fun b=>b = w5.heap.size) (.slice (some ⟨w5.heap.size,0,none⟩) 1 1) Mk.script:=FoV.of_blk (K:=fun b=>b = w5.heap.size) (f:=Mk.script) (Blk.new w5 52 (nodeCells [115,99,114,105,112,116] [] (.slice none 0 0)++[]).toArray) rfl (FCells.one (k:=.nil) (r:=.nil) (FoV.nil0 _ _) (FCells.nil0 _ _)) (by decide)
 have HI:=Lib.hid (cl_Is Mk.script _ _ _ (by decide) HS (fun b q=>by subst q;simp))
 rw [Mk.script_check,Mk.script_safe,show (decide ((0 : Int) = 0) && false) = false from rfl] at HI
 have HAL:=Lib.hid hal
 clear hal HS
 go_wp2_with fail
 refine HI.out.mono ?_
 rintro e w6 ⟨rfl,hb6⟩
 have L6:=Lib.hid (HAL.out.trans (hb6.mono HAL.out.size))
 have B6:=Lib.hid (B5.out.trans (L6.out.mono B5.out.size))
 have HV6 : Hid (FoV w6 (fun b=>b < w6.heap.size) (.slice ao3 Mk.page.len cap3) Mk.page):=HV5.out.frame (fun b q=>⟨Nat.lt_of_lt_of_le q L6.out.size,L6.out.block b q⟩)
 clear hb6 HI HV5
 have hst : ∀ l : List UInt8,(st l).toList = l:=fun l=>Lib.toList_data _
 clear hv3 B5 B4 B3 B2 B1 HAL L6
 go_wp2_with fail
 refine (lw_page w6).mono ?_
 rintro e w7 ⟨v7,rfl,hv7,hb7⟩
 have B7:=Lib.hid (B6.out.trans (hb7.mono B6.out.size))
 have HV7 : FoV w7 (fun b=>b < w7.heap.size) (.slice ao3 Mk.page.len cap3) Mk.page:=HV6.out.frame (fun b q=>⟨Nat.lt_of_lt_of_le q hb7.size,hb7.block b q⟩)
 have HSN:=Lib.hid (rf_SameNodes (Mk.page.bulk + 1) Mk.page (Nat.lt_succ_self _) (by decide) _ v7 _ _ w7 HV7 hv7 (fun b q=>q) (fun b q=>q.2))
 clear hb7 hv7 HV7 HV6 B6
 go_wp2_with fail
 refine HSN.out.mono ?_
 rintro e w8 ⟨rfl,hb8⟩
 have B8:=Lib.hid (B7.out.trans (hb8.mono B7.out.size))
 clear hb8 HSN B7
 go_wp2_with fail
 go_ret
 exact ⟨rfl,B8.out⟩
end Go.Proofs.YteidgdpaolieaaaGreatDoor
