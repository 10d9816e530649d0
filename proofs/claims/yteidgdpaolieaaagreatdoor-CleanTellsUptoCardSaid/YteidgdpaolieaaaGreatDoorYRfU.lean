/- Contract of the reference's CleanOf: what stays of a tree. Condition: at most 33554432 nodes, attributes and letters. -/
import Derived.Test.YteidgdpaolieaaaGreatDoorYRfS
import Derived.Test.YteidgdpaolieaaaGreatDoorYRfK
import Derived.Test.YteidgdpaolieaaaGreatDoorYMkClean5
import Derived.Deep.RegionHeld3
import Derived.Test.YteidgdpaolieaaaGreatDoorYMkTaken
import Derived.Test.YteidgdpaolieaaaGreatDoorYMkRep5
set_option linter.unusedVariables false
set_option linter.unusedSimpArgs false
namespace Mk
theorem joins_nil (f : Fo) : f.joins .nil = f:=rfl
theorem joins_one (f : Fo) (n : Bs) (a : List At) (t : Bs) (k : Fo) : f.joins (.node n a t k .nil) = Fo.snoc n a t k f:=rfl
theorem joins_step (f k : Fo) (m : Nat) (n : Bs) (a : List At) (t : Bs) (kk r : Fo) (h : k.drop m = .node n a t kk r) (hr : k.drop (m + 1) = r) : Fo.joins f (k.drop m) = Fo.joins (Fo.snoc n a t kk f) (k.drop (m + 1)):=by
 rw [h,hr];rfl
end Mk
namespace Go.Proofs.YteidgdpaolieaaaGreatDoor
open Go.RowKit
def CleanC (base : List UInt8) (f : Mk.Fo) : Prop:=∀ (v : Value) (K : Nat→Prop) (w : World),FoV w K v f→(∀ b,K b→b < w.heap.size) →
 Calls Tryz.prog 12 #[.string (st base),v] w fun e w'=>∃ v',e = .returned v'∧FoV w' (Kn K w w') v' (Mk.cleanOn base .nil f)∧Below w.heap.size w w'
set_option maxHeartbeats 16000000 in
set_option maxRecDepth 100000 in
theorem rf_CleanOf (base : List UInt8) (N : Nat) : ∀ f : Mk.Fo,f.bulk < N→f.bulk≤33554432→CleanC base f:=by
 induction N with
 | zero=>intro f hN;omega
 | succ N ih =>
  intro f hN hf v K w hv hK
  have hst : ∀ l : List UInt8,(st l).toList = l:=fun l=>Lib.toList_data _
  obtain ⟨ao,cap,hv1,hvm,hvc⟩:=hv.get
  subst hv1
  have HV:=Lib.hid hvc
  have HK:=Lib.hid hK
  have hfl:=Mk.Fo.len_bulk f
  clear hvc hv hK
  go_enter Tryz.func12,Tryz.ntmps12
  go_wp2_with fail
  go_loopw [5,6] (fun u i wr=>∃ (k : Nat) (f' : Mk.Fo) (xs' : List Value) (Kr : Nat→Prop),k≤f.len∧i = .int .i64 (k : Int)∧Hid (Mk.cleanOn base .nil f = Mk.cleanOn base f' (f.drop k))∧f'.bulk + 3001 * (f.drop k).bulk≤3001 * f.bulk∧Hid (∀ b,Kr b→K b ∨ w.heap.size≤b)∧Hid (OwnF wr w.heap.size Kr u f' xs')∧Hid (Below w.heap.size w wr)) (fun _ i _=>f.len - (intOf i).toNat)
  case atStart=>exact ⟨0,.nil,[],(fun _=>False),Nat.zero_le _,rfl,by show _ = _;rw [Mk.Fo.drop_zero],by rw [Mk.Fo.drop_zero];show 0 + _≤_;omega,fun _ h=>h.elim,⟨World.ownsRow_nil _ _ _ _,rfl,fun _ _ h=>h,fun _ h=>h.elim⟩,Below.refl _ _⟩
  case round =>
   obtain ⟨k,f',xs',Kr,hk,rfl,HJ,hbk,HKR,OF,BL⟩:=hrel
   have hsz:=BL.out.size
   by_cases hlt : k < f.len
   ·obtain ⟨n,a,t,kk,r,hd,hd1⟩:=Mk.Fo.drop_lt f k hlt
    obtain ⟨g,o,aoa,capa,aok,capk,rfl,hKg,c0,c1,c2,c3,hva,hvk⟩:=HV.out k n a t kk r hd
    have hgw:=HK.out g hKg
    have hdb : (f.drop k).bulk = 1 + n.length + t.length + Mk.Fo.atB a + kk.bulk + r.bulk:=by rw [hd];rfl
    have hdb2:=Mk.Fo.drop_bulk f k
    have hatl:=Mk.atB_len a
    rw [← BL.out.cell (p:=⟨g,_,none⟩) hgw] at c0 c1 c2 c3
    have hno:=Mk.nodeOut_bulk base n a t kk
    have hjb:=Mk.Fo.joins_bulk (Mk.nodeOut base n a t kk) f'
    have HJ2 : Hid (Mk.cleanOn base .nil f = Mk.cleanOn base (f'.joins (Mk.nodeOut base n a t kk)) (f.drop (k + 1))):=by show _ = _;rw [HJ.out,hd,hd1,Mk.cleanOn_step]
    have hbk2 : (f'.joins (Mk.nodeOut base n a t kk)).bulk + 3001 * (f.drop (k + 1)).bulk≤3001 * f.bulk:=by rw [hd1];omega
    have hfb : f'.bulk≤100696855552:=by omega
    have hfl2:=Mk.Fo.len_bulk f'
    have HNO : Hid (Mk.nodeOut base n a t kk = if n = [] then .node n a t kk .nil else if Mk.goneB n then .nil else if !Mk.allowedB n then Mk.cleanOn base .nil kk else if n = [105,109,103]∧Mk.hasAt (Mk.cleanAts base n a) [115,114,99] = false then .nil else .node n (Mk.cleanAts base n a) [] (Mk.cleanOn base .nil kk) .nil):=rfl
    obtain ⟨no,hno2⟩ : ∃ no,Mk.nodeOut base n a t kk = no:=⟨_,rfl⟩
    rw [hno2] at HJ2 HNO hbk2 hno hjb
    have hal1:=(Below.refl wr.heap.size wr).alloc (Nat.le_refl _) (.cells #[.string (st n),.slice aoa a.length capa,.string (st t),.slice aok kk.len capk] 52)
    have BL1:=Lib.hid (BL.out.trans (hal1.mono hsz))
    have PB:=Lib.hid (Blk.new wr 52 #[.string (st n),.slice aoa a.length capa,.string (st t),.slice aok kk.len capk])
    have OF1:=Lib.hid (OF.out.frame hal1.size (fun b hb _=>hal1.block b hb))
    have hki : (k : Int) < f.len:=by omega
    have hk0 : (0 : Int)≤k:=by omega
    have HVA:=Lib.hid hva
    have HVK:=Lib.hid hvk
    have hna : n.length + t.length + Mk.Fo.atB a + kk.bulk + 1≤f.bulk:=by omega
    clear hd hd1 hva hvk hdb hdb2 hal1 HJ OF HV hno2 hjb hno
    go_upto_region 6 with fail
    generalize (wr.alloc (.cells #[.string (st n),.slice aoa a.length capa,.string (st t),.slice aok kk.len capk] 52)) = w1 at BL1 PB OF1 ⊢
    generalize wr.heap.size = T at PB hsz ⊢
    clear c0 c1 c2 c3 BL
    have d0 : w1.cell? ⟨T,0,none⟩ = some (.string (st n)):=Blk.cell PB.out 0
    have hTl : T < w1.heap.size:=Blk.lt PB.out
    have HTB : Hid (∀ W,Below w1.heap.size w1 W→Blk W T 52 #[.string (st n),.slice aoa a.length capa,.string (st t),.slice aok kk.len capk]):=fun W hW=>Blk.below PB.out hW hTl
    have HBW : Hid (∀ W,Below w1.heap.size w1 W→Below w.heap.size w W):=fun W hW=>BL1.out.trans (hW.mono BL1.out.size)
    have HOF : Hid (∀ W,Below w1.heap.size w1 W→OwnF W w.heap.size Kr u5 f' xs'):=fun W hW=>OF1.out.frame hW.size (fun b hb _=>hW.block b hb)
    have HFV : Hid (∀ W,Below w1.heap.size w1 W→FoV W K (.slice aok kk.len capk) kk∧AtsV W K (.slice aoa a.length capa) a∧∀ b,K b→b < W.heap.size):=fun W hW=>⟨HVK.out.below HK.out (HBW.out W hW),HVA.out.below HK.out (HBW.out W hW),fun b q=>Nat.lt_of_lt_of_le (HK.out b q) (HBW.out W hW).size⟩
    have HON : Hid (∀ b,u5.ownBlock = some b→w.heap.size≤b∧b < w1.heap.size):=fun b q=>OF1.out.own.lt b q
    have HKR1 : Hid (∀ b,Kr b→b < w1.heap.size):=OF1.out.le
    have HGW : Hid (∀ W q vs,Blk W q 9 vs→vs.toList = strVs [[115,99,114,105,112,116],[115,116,121,108,101],[116,101,109,112,108,97,116,101]]→Calls Tryz.prog 31 #[.string (st n),.slice (some ⟨q,0,none⟩) 3 3] W fun e w'=>e = .returned (.bool (Mk.goneB n))∧w' = W):=fun W q vs hb hq=>by
     have:=rf_inWords n [[115,99,114,105,112,116],[115,116,121,108,101],[116,101,109,112,108,97,116,101]] (.slice (some ⟨q,0,none⟩) 3 3) _ W (StrsV.blk _ hb hq (by decide)) (by decide)
     rw [Mk.inW_gone] at this
     exact this
    clear PB OF1 HVA HVK
    go_wp2_with fail
    refine (HGW.out _ _ _ (Blk.new w1 _ _) rfl).mono ?_
    rintro e w2 ⟨rfl,hw9⟩
    have BX2 : Hid (Below w1.heap.size w1 w2):=by
     show Below _ _ _
     rw [hw9]
     exact (Below.refl _ w1).alloc (Nat.le_refl _) _
    clear hw9 HGW d0
    by_cases hgone : Mk.goneB n = true
    ·rw [hgone]
     have hn : n ≠ []:=by rintro rfl;cases hgone
     have HR : Hid (no = .nil):=by show _ = _;rw [HNO.out,if_neg hn,if_pos hgone]
     rw [HR.out,Mk.joins_nil] at HJ2 hbk2
     have OF2:=Lib.hid (HOF.out w2 BX2.out)
     have BL2:=Lib.hid (HBW.out w2 BX2.out)
     clear HNO hgone hn HR HFV HTB HOF HBW
     as_aux_lemma =>
     go_wp2_with fail
     go_roundw
     case rel=>exact ⟨k + 1,_,xs',Kr,by omega,by go_num,HJ2,hbk2,HKR,OF2,BL2⟩
     case measure=>simp [intOf];omega
    have hg2 : Mk.goneB n = false:=by simpa using hgone
    rw [hg2]
    have e0 : w2.cell? ⟨T,0,none⟩ = some (.string (st n)):=Blk.cell (HTB.out w2 BX2.out) 0
    have e1 : w2.cell? ⟨T,1,none⟩ = some (.slice aoa a.length capa):=Blk.cell (HTB.out w2 BX2.out) 1
    have e2 : w2.cell? ⟨T,2,none⟩ = some (.string (st t)):=Blk.cell (HTB.out w2 BX2.out) 2
    have e3 : w2.cell? ⟨T,3,none⟩ = some (.slice aok kk.len capk):=Blk.cell (HTB.out w2 BX2.out) 3
    by_cases hn : n = []
    ·have hie : n.isEmpty = true:=by rw [hn];rfl
     have HR : Hid (no = .node n a t kk .nil):=by show _ = _;rw [HNO.out,if_pos hn]
     rw [HR.out,Mk.joins_one] at HJ2 hbk2
     clear HNO hgone hn HR hg2
     as_aux_lemma =>
     have hfv2:=HFV.out w2 BX2.out
     have OFM : Hid (OwnF w2 w.heap.size (fun b=>Kr b ∨ K b) u5 f' xs'):=by
      refine (HOF.out w2 BX2.out).more (fun b q=>.inl q) ?_ ?_
      ·rintro b hb (q | q)
       ·exact (HOF.out w2 BX2.out).ne b hb q
       ·have:=HK.out b q;have:=(HON.out b hb).1;omega
      ·rintro b (q | q)
       ·exact (HOF.out w2 BX2.out).le b q
       ·exact hfv2.2.2 b q
     have HJN:=Lib.hid (rf_joinNode f' n t a kk u5 (.slice aoa a.length capa) (.slice aok kk.len capk) w.heap.size (fun b=>Kr b ∨ K b) xs' w2 OFM.out (hfv2.2.1.frame (fun b q=>⟨.inr q,rfl⟩)) (hfv2.1.frame (fun b q=>⟨.inr q,rfl⟩)) (HBW.out w2 BX2.out).size (by omega))
     have BL2:=Lib.hid (HBW.out w2 BX2.out)
     have HKR2 : Hid (∀ b,(Kr b ∨ K b)→K b ∨ w.heap.size≤b):=fun b q=>q.elim (fun q=>HKR.out b q) (fun q=>.inl q)
     clear hfv2 HFV HTB HBW HOF
     go_wp2_with fail
     refine HJN.out.mono ?_
     rintro e w3 ⟨v3,xs3,rfl,hof3,hap3,_⟩
     have BL3:=Lib.hid (BL2.out.trans (hap3.below BL2.out.size (fun b hb e=>by have:=(HON.out b e).1;omega)))
     have OF3:=Lib.hid hof3
     clear HJN hof3 hap3 OFM BL2
     go_wp2_with fail
     go_roundw
     case rel=>exact ⟨k + 1,_,xs3,_,by omega,by go_num,HJ2,hbk2,HKR2,OF3,BL3⟩
     case measure=>simp [intOf];omega
    have hie : n.isEmpty = false:=by
     cases n with
     | nil=>exact absurd rfl hn
     | cons _ _=>rfl
    have HNE:=Lib.hid hn
    have HNO2 : Hid (no = if !Mk.allowedB n then Mk.cleanOn base .nil kk else if n = [105,109,103]∧Mk.hasAt (Mk.cleanAts base n a) [115,114,99] = false then .nil else .node n (Mk.cleanAts base n a) [] (Mk.cleanOn base .nil kk) .nil):=by show _ = _;rw [HNO.out,if_neg hn,if_neg hgone]
    clear HNO hgone hn hg2
    as_aux_lemma =>
    have hfv2:=HFV.out w2 BX2.out
    have HREC:=Lib.hid (ih kk (by omega) (by omega) (.slice aok kk.len capk) K w2 hfv2.1 hfv2.2.2)
    have hcb:=(Mk.cleanOn_bulk base kk .nil).1
    obtain ⟨KF,hKF⟩ : ∃ KF,Mk.cleanOn base .nil kk = KF:=⟨_,rfl⟩
    rw [hKF] at HREC HNO2 hcb
    have hb0 : Mk.Fo.bulk .nil = 0:=rfl
    have hkfb : KF.bulk≤100696855552:=by omega
    have hkfl:=Mk.Fo.len_bulk KF
    clear hfv2 hKF hcb hb0 ih
    go_wp2_with fail
    refine HREC.out.mono ?_
    rintro e w3 ⟨vk3,rfl,hfk3,hb3⟩
    have BX3:=Lib.hid (BX2.out.trans (hb3.mono BX2.out.size))
    have FK3 : Hid (FoV w3 (Kn K w1 w3) vk3 KF):=hfk3.frame (fun b q=>⟨q.imp id (fun q=>⟨Nat.le_trans BX2.out.size q.1,q.2⟩),rfl⟩)
    obtain ⟨ao3,cap3,xs3,hvs3,_⟩:=hfk3
    subst hvs3
    have HAL:=Lib.hid (rf_IsAllowed n w3)
    have f0 : w3.cell? ⟨T,0,none⟩ = some (.string (st n)):=Blk.cell (HTB.out w3 BX3.out) 0
    clear HREC hb3 e0 e1 e2 e3
    go_wp2_with fail
    refine HAL.out.mono ?_
    rintro e w4 ⟨rfl,hb4⟩
    have BX4:=Lib.hid (BX3.out.trans (hb4.mono BX3.out.size))
    have FK4 : Hid (FoV w4 (Kn K w1 w4) (.slice ao3 KF.len cap3) KF):=FK3.out.frame (fun b q=>⟨q.imp id (fun q=>⟨q.1,Nat.lt_of_lt_of_le q.2 hb4.size⟩),hb4.block b (Kn.le (fun b q=>(HFV.out w1 (Below.refl _ _)).2.2 b q) BX3.out.size b q)⟩)
    clear HAL hb4 FK3 f0
    by_cases hall : Mk.allowedB n = true
    rotate_left
    ·have hal2 : Mk.allowedB n = false:=by simpa using hall
     rw [hal2]
     have HR : Hid (no = KF):=by show _ = _;rw [HNO2.out,hal2];rfl
     rw [HR.out] at HJ2 hbk2
     clear HNO2 hall HR hal2
     as_aux_lemma =>
     have OFM : Hid (OwnF w4 w.heap.size (fun b=>Kr b ∨ Kn K w1 w4 b) u5 f' xs'):=by
      refine (HOF.out w4 BX4.out).more (fun b q=>.inl q) ?_ ?_
      ·rintro b hb (q | q | q)
       ·exact (HOF.out w4 BX4.out).ne b hb q
       ·have:=HK.out b q;have:=(HON.out b hb).1;omega
       ·have:=(HON.out b hb).2;omega
      ·rintro b (q | q | q)
       ·exact (HOF.out w4 BX4.out).le b q
       ·exact (HFV.out w4 BX4.out).2.2 b q
       ·exact q.2
     have FKM : Hid (FoV w4 (fun b=>Kr b ∨ Kn K w1 w4 b) (.slice ao3 KF.len cap3) KF):=FK4.out.frame (fun b q=>⟨.inr q,rfl⟩)
     have BL4:=Lib.hid (HBW.out w4 BX4.out)
     obtain ⟨K4,hK4⟩ : ∃ K4 : Nat→Prop,(fun b=>Kr b ∨ Kn K w1 w4 b) = K4:=⟨_,rfl⟩
     rw [hK4] at OFM FKM
     have HKR4 : Hid (∀ b,K4 b→K b ∨ w.heap.size≤b):=by
      intro b hb
      rw [← hK4] at hb
      rcases hb with q | q | q
      ·exact HKR.out b q
      ·exact .inl q
      ·exact .inr (Nat.le_trans BL1.out.size q.1)
     clear hK4
     have hjj:=Mk.Fo.joins_bulk KF f'
     clear HFV HTB HBW HOF HON HKR1 HKR FK4 BX4 BX3 BX2 BL1
     go_wp2_with fail
     go_loopw [5,9] (fun u i wr=>∃ (m : Nat) (h : Mk.Fo) (ys : List Value),m≤KF.len∧i = .int .i64 (m : Int)∧Hid (Mk.Fo.joins f' KF = Mk.Fo.joins h (KF.drop m))∧h.bulk + (KF.drop m).bulk≤f'.bulk + KF.bulk∧Hid (OwnF wr w.heap.size K4 u h ys)∧Hid (FoV wr K4 (.slice ao3 KF.len cap3) KF)∧Hid (Below w.heap.size w wr)) (fun _ i _=>KF.len - (intOf i).toNat)
     case atStart=>exact ⟨0,f',xs',Nat.zero_le _,rfl,by show _ = _;rw [Mk.Fo.drop_zero],by rw [Mk.Fo.drop_zero];omega,OFM.out,FKM.out,BL4.out⟩
     case round =>
      obtain ⟨m,h,ys,hm,rfl,HM,hmb,OFH,FKH,BLH⟩:=hrel
      by_cases hmt : m < KF.len
      ·obtain ⟨n2,a2,t2,k2,r2,hd2,hd3⟩:=Mk.Fo.drop_lt KF m hmt
       obtain ⟨ao4,cap4,hq1,_,hat4⟩:=FKH.out.get
       injection hq1 with hq2 _ hq3
       subst hq2
       subst hq3
       obtain ⟨g2,o2,aoa2,capa2,aok2,capk2,hao2,hKg2,c0,c1,c2,c3,hva2,hvk2⟩:=hat4 m n2 a2 t2 k2 r2 hd2
       subst hao2
       have hdb : (KF.drop m).bulk = 1 + n2.length + t2.length + Mk.Fo.atB a2 + k2.bulk + r2.bulk:=by rw [hd2];rfl
       have hsb:=Mk.Fo.snoc_bulk h n2 a2 t2 k2
       have HM2 : Hid (Mk.Fo.joins f' KF = Mk.Fo.joins (Mk.Fo.snoc n2 a2 t2 k2 h) (KF.drop (m + 1))):=by show _ = _;rw [HM.out,Mk.joins_step h KF m n2 a2 t2 k2 r2 hd2 hd3]
       have hmb2 : (Mk.Fo.snoc n2 a2 t2 k2 h).bulk + (KF.drop (m + 1)).bulk≤f'.bulk + KF.bulk:=by rw [hd3];omega
       have HJN:=Lib.hid (rf_joinNode h n2 t2 a2 k2 u5 (.slice aoa2 a2.length capa2) (.slice aok2 k2.len capk2) w.heap.size K4 ys wr OFH.out hva2 hvk2 BLH.out.size (by omega))
       have hmi : (m : Int) < KF.len:=by omega
       have hm0 : (0 : Int)≤m:=by omega
       clear HM hat4 hd2 hd3 hva2 hvk2 hdb hsb
       as_aux_lemma =>
       go_wp2_with fail
       refine HJN.out.mono ?_
       rintro e w5 ⟨v5,ys5,rfl,hof5,hap5,_⟩
       have BL5:=Lib.hid (BLH.out.trans (hap5.below BLH.out.size (fun b hb e=>by have:=(OFH.out.own.lt b e).1;omega)))
       have FK5 : Hid (FoV w5 K4 (.slice (some ⟨g2,o2,none⟩) KF.len cap3) KF):=FKH.out.frame (fun b q=>⟨q,hap5.block b (OFH.out.le b q) (fun e=>OFH.out.ne b e q)⟩)
       have OF5:=Lib.hid hof5
       clear HJN hof5 hap5 OFH FKH BLH c0 c1 c2 c3
       go_wp2_with fail
       go_roundw
       case rel=>exact ⟨m + 1,_,ys5,by omega,by go_num,HM2,hmb2,OF5,FK5,BL5⟩
       case measure=>simp [intOf];omega
      ·have hme : m = KF.len:=by omega
       have HR : Hid (Mk.Fo.joins f' KF = h):=by show _ = _;rw [HM.out,hme,Mk.Fo.drop_len];rfl
       rw [HR.out] at HJ2 hbk2
       have hmi : ¬ (m : Int) < KF.len:=by omega
       clear HM hme HR FKH
       as_aux_lemma =>
       go_wp2_with fail
       go_roundw
       case rel=>exact ⟨k + 1,_,ys,K4,by omega,by go_num,HJ2,hbk2,HKR4,OFH,BLH⟩
       case measure=>simp [intOf];omega
    rw [hall]
    have HNO3 : Hid (no = if n = [105,109,103]∧Mk.hasAt (Mk.cleanAts base n a) [115,114,99] = false then .nil else .node n (Mk.cleanAts base n a) [] KF .nil):=by show _ = _;rw [HNO2.out,hall];rfl
    clear HNO2 hall
    as_aux_lemma =>
    have hP4 : w4.heap.size = w4.heap.size:=rfl
    have f0 : w4.cell? ⟨T,0,none⟩ = some (.string (st n)):=Blk.cell (HTB.out w4 BX4.out) 0
    have hb5:=(Below.refl w4.heap.size w4).alloc (Nat.le_refl _) (.cells #[.string (st n),.slice none 0 0,.string ⟨#[]⟩,.slice ao3 KF.len cap3] 52)
    have PX5:=Lib.hid (Blk.new w4 52 #[.string (st n),.slice none 0 0,.string ⟨#[]⟩,.slice ao3 KF.len cap3])
    have BY5:=Lib.hid hb5
    have hs5 : w4.heap.size + 1 = (w4.alloc (.cells #[.string (st n),.slice none 0 0,.string ⟨#[]⟩,.slice ao3 KF.len cap3] 52)).heap.size:=by simp
    have HS5:=Lib.hid hs5
    clear hP4 hb5 hs5
    go_wp2_with fail
    generalize w4.alloc (.cells #[.string (st n),.slice none 0 0,.string ⟨#[]⟩,.slice ao3 KF.len cap3] 52) = w5 at PX5 BY5 HS5 ⊢
    obtain ⟨P,hP⟩ : ∃ P,w4.heap.size = P:=⟨_,rfl⟩
    have HPQ:=Lib.hid hP
    rw [hP] at PX5 BY5 HS5 ⊢
    have hTP : T < P:=by have:=BX4.out.size;omega
    have hs1P : w1.heap.size≤P:=by have:=BX4.out.size;omega
    clear hP f0
    go_loopw [11] (fun i wr=>∃ (m : Nat) (la : List Mk.At) (aol : Option Addr) (capl : Nat),m≤a.length∧la.length≤m∧i = .int .i64 (m : Int)∧Hid (Mk.cleanAts base n a = la++Mk.cleanAts base n (a.drop m))∧Hid (Blk wr P 52 #[.string (st n),.slice aol la.length capl,.string ⟨#[]⟩,.slice ao3 KF.len cap3])∧Hid (wr.ownsRow (P + 1) 58 2 (.slice aol la.length capl) la.length (atCells la))∧Hid (Below P w4 wr)) (fun i _=>a.length - (intOf i).toNat)
    case atStart=>exact ⟨0,[],none,0,Nat.zero_le _,Nat.zero_le _,rfl,rfl,PX5.out,World.ownsRow_nil _ _ _ _,BY5.out⟩
    case round =>
     obtain ⟨m,la,aol,capl,hm,hlm,rfl,HCA,PB6,OW6,BE6⟩:=hrel
     have HX6 : Hid (Below w1.heap.size w1 wr):=BX4.out.trans (BE6.out.mono (by omega))
     have q1 : wr.cell? ⟨T,1,none⟩ = some (.slice aoa a.length capa):=Blk.cell (HTB.out wr HX6.out) 1
     have q0 : wr.cell? ⟨T,0,none⟩ = some (.string (st n)):=Blk.cell (HTB.out wr HX6.out) 0
     have hPr : P < wr.heap.size:=Blk.lt PB6.out
     by_cases hmt : m < a.length
     ·obtain ⟨ao6,cap6,hz1,_,hz2⟩:=((HFV.out wr HX6.out).2.1).get
      injection hz1 with hz3 _ hz4
      subst hz3
      subst hz4
      obtain ⟨g6,o6,hao6,_,s0,s1⟩:=hz2 m hmt
      subst hao6
      have hmem:=Mk.atB_mem (List.getElem_mem hmt)
      have HCX0 : Hid (Mk.cleanAts base n (a.drop m) = Mk.cleanAt base n a[m]++Mk.cleanAts base n (a.drop (m + 1))):=by
       show _ = _
       rw [List.drop_eq_getElem_cons hmt];rfl
      obtain ⟨x,hx⟩ : ∃ x,a[m] = x:=⟨_,rfl⟩
      rw [hx] at s0 s1 hmem HCX0
      have hmi : (m : Int) < a.length:=by omega
      have hm0 : (0 : Int)≤m:=by omega
      have HQO : Hid ((Value.slice aol la.length capl).ownBlock ≠ some wr.heap.size):=fun e=>by have:=(OW6.out.lt _ e).2;omega
      have hal7:=(Below.refl wr.heap.size wr).alloc (Nat.le_refl _) (.cells #[.string (st x.n),.string (st x.v)] 58)
      have QB:=Lib.hid (Blk.new wr 58 #[.string (st x.n),.string (st x.v)])
      have PB7:=Lib.hid (Blk.alloc PB6.out (.cells #[.string (st x.n),.string (st x.v)] 58))
      have OW7:=Lib.hid (own_ap' OW6.out (Ap.of_below (S:=fun _=>False) hal7) (fun _ _ q=>q))
      have BE7:=Lib.hid (BE6.out.alloc (Nat.le_of_lt hPr) (.cells #[.string (st x.n),.string (st x.v)] 58))
      have u0 : (wr.alloc (.cells #[.string (st x.n),.string (st x.v)] 58)).cell? ⟨T,0,none⟩ = some (.string (st n)):=(cell_of_block (hal7.block T (by omega)) 0).trans q0
      clear hx hz2 hal7 HX6
      go_upto_region 20 with fail
      generalize (wr.alloc (.cells #[.string (st x.n),.string (st x.v)] 58)) = w7 at QB PB7 OW7 BE7 u0 ⊢
      generalize wr.heap.size = Q at QB hPr HQO ⊢
      clear q0 q1 s0 s1 OW6 PB6 BE6
      have v0 : w7.cell? ⟨Q,0,none⟩ = some (.string (st x.n)):=Blk.cell QB.out 0
      have HMH:=Lib.hid (rf_mayHave n x.n w7)
      have hca : Mk.cleanAt base n x = if !Mk.mayB n x.n then [] else if Mk.linkB x.n then (if Mk.goodLink (Mk.light base x.v) then [⟨x.n,Mk.light base x.v⟩] else []) else [x]:=rfl
      obtain ⟨bm,hbm⟩ : ∃ bm,Mk.mayB n x.n = bm:=⟨_,rfl⟩
      rw [hbm] at HMH hca
      have HCA1:=Lib.hid hca
      clear hbm hca
      cases bm with
      | false =>
       have HCX : Hid (Mk.cleanAts base n (a.drop m) = Mk.cleanAts base n (a.drop (m + 1))):=by show _ = _;rw [HCX0.out,HCA1.out];rfl
       clear HCX0 HCA1
       as_aux_lemma =>
       go_wp2_with fail
       refine HMH.out.mono ?_
       rintro e w9 ⟨rfl,hw9⟩
       subst w9
       have HCN : Hid (Mk.cleanAts base n a = la++Mk.cleanAts base n (a.drop (m + 1))):=by show _ = _;rw [HCA.out,HCX.out]
       clear HCA HCX
       go_wp2_with fail
       go_roundw
       case rel=>exact ⟨m + 1,la,aol,capl,by omega,by omega,by go_num,HCN,PB7,OW7,BE7⟩
       case measure=>simp [intOf];omega
      | true =>
       have HCA2 : Hid (Mk.cleanAt base n x = if Mk.linkB x.n then (if Mk.goodLink (Mk.light base x.v) then [⟨x.n,Mk.light base x.v⟩] else []) else [x]):=by show _ = _;rw [HCA1.out];rfl
       clear HCA1
       as_aux_lemma =>
       go_wp2_with fail
       refine HMH.out.mono ?_
       rintro e w9 ⟨rfl,hw9⟩
       subst w9
       clear HMH u0
       go_upto_region 21 with fail
       go_cut [82] (fun b wx=>b = .bool (Mk.linkB x.n)∧w7 = wx)
       case first =>
        as_aux_lemma =>
        rcases name_cases x.n [104,114,101,102] with ⟨h,q1⟩ | ⟨h,q1⟩
        ·have HE : Hid (Mk.linkB x.n = true):=by show _ = _;unfold Mk.linkB;rw [q1];rfl
         clear h HCA2 HCX0
         go_wp2_with fail
         go_meet
         case rel=>exact ⟨by (rw [HE.out]) <;> rfl,rfl⟩
        rcases name_cases x.n [115,114,99] with ⟨h2,q2⟩ | ⟨h2,q2⟩
        ·have HE : Hid (Mk.linkB x.n = true):=by show _ = _;unfold Mk.linkB;rw [q2];simp
         clear h h2 HCA2 HCX0
         go_wp2_with fail
         go_meet
         case rel=>exact ⟨by (rw [HE.out]) <;> rfl,rfl⟩
        ·have HE : Hid (Mk.linkB x.n = false):=by show _ = _;unfold Mk.linkB;rw [q1,q2];rfl
         clear h h2 HCA2 HCX0
         go_wp2_with fail
         go_meet
         case rel=>exact ⟨by (rw [HE.out]) <;> rfl,rfl⟩
       case rest =>
       as_aux_lemma =>
       obtain ⟨rfl,hwx⟩:=hcut
       subst hwx
       clear v0
       obtain ⟨bl,hbl⟩ : ∃ bl,Mk.linkB x.n = bl:=⟨_,rfl⟩
       rw [hbl] at HCA2 ⊢
       clear hbl
       cases bl with
       | false =>
        have HCX : Hid (Mk.cleanAts base n (a.drop m) = [⟨x.n,x.v⟩]++Mk.cleanAts base n (a.drop (m + 1))):=by show _ = _;rw [HCX0.out,HCA2.out];rfl
        clear HCX0 HCA2
        as_aux_lemma =>
        obtain ⟨i0,hi,hz0,hz1,hz2⟩:=info_parts Tryz.infoAttr
        have m0 : w7.cell? ⟨Q,0,none⟩ = some (.string (st x.n)):=Blk.cell QB.out 0
        have m1 : w7.cell? ⟨Q,1,none⟩ = some (.string (st x.v)):=Blk.cell QB.out 1
        have p1 : w7.cell? ⟨P,1,none⟩ = some (.slice aol la.length capl):=Blk.cell PB7.out 1
        have ow10:=own_ap' OW7.out ((Ap.refl (fun _=>False) w7).alloc (.cells #[.string (st x.n),.string (st x.v)] 58)) (fun _ _ q=>q)
        have hPW : P < w7.heap.size:=Blk.lt PB7.out
        go_wp2_with (at_builtin;refine wpList_append_own _ rfl _ _ 50 rfl (P + 1) 58 i0 (.agg #[.string ⟨#[]⟩,.string ⟨#[]⟩]) 2 32 Tryz.underlying50 hi hz0 hz1 hz2 rfl (by decide) _ _ _ rfl ow10 ⟨w7.heap.size,0,none⟩ 1 1 [.string (st x.n),.string (st x.v)] rfl rfl (cells_new _ _ _) (by intro u hu;simp at hu;rcases hu with rfl | rfl <;> rfl) (by unfold maxLen;omega) (by omega) (by simp;omega) ?_)
        intro v' w11 hown' hgrow _
        obtain ⟨aon,capn,rfl⟩:=own_slice hown'
        have hne11 : (Value.slice aol la.length capl).ownBlock ≠ some P:=fun e=>by have:=(OW7.out.lt P e).1;omega
        have PB11 : Hid (Blk w11 P 52 #[.string (st n),.slice aol la.length capl,.string ⟨#[]⟩,.slice ao3 KF.len cap3]):=(hgrow.block P (by simp;omega) (fun e=>hne11 e.symm)).trans ((Below.heap_alloc w7 _ P hPW).trans PB7.out)
        have r1 : w11.cell? ⟨P,1,none⟩ = some (.slice aol la.length capl):=Blk.cell PB11.out 1
        have r2 : w11.frozen? ⟨P,1,none⟩ = false:=Blk.frozen PB11.out 1
        have hll : (la++[(⟨x.n,x.v⟩ : Mk.At)]).length = la.length + 1:=by simp
        have PB12 : Hid (Blk (w11.setCell ⟨P,1,none⟩ (.slice aon (la.length + 1) capn)) P 52 #[.string (st n),.slice aon (la++[(⟨x.n,x.v⟩ : Mk.At)]).length capn,.string ⟨#[]⟩,.slice ao3 KF.len cap3]):=by
         show Blk _ _ _ _
         rw [hll]
         exact Blk.set_ PB11.out 1 _
        have hnn : (Value.slice aon (la.length + 1) capn).ownBlock ≠ some P:=fun e=>by have:=(hown'.lt P e).1;omega
        have OW12 : Hid ((w11.setCell ⟨P,1,none⟩ (.slice aon (la.length + 1) capn)).ownsRow (P + 1) 58 2 (.slice aon (la++[(⟨x.n,x.v⟩ : Mk.At)]).length capn) (la++[(⟨x.n,x.v⟩ : Mk.At)]).length (atCells (la++[(⟨x.n,x.v⟩ : Mk.At)]))):=by
         show World.ownsRow _ _ _ _ _ _ _
         rw [show (la++[(⟨x.n,x.v⟩ : Mk.At)]).length = la.length + 1 by simp,show atCells (la++[(⟨x.n,x.v⟩ : Mk.At)]) = atCells la++[.string (st x.n),.string (st x.v)] by simp [atCells]]
         exact ownsRow_setCell_other hown' (a:=⟨P,1,none⟩) hnn _
        have BE12:=Lib.hid (((BE7.out.alloc (Nat.le_of_lt hPW) (.cells #[.string (st x.n),.string (st x.v)] 58)).grown hgrow (by simp;omega) (fun k hk=>by have:=(OW7.out.lt k hk).1;omega)).setCell (p:=⟨P,1,none⟩) (Nat.le_refl _) (.slice aon (la.length + 1) capn))
        have HCN : Hid (Mk.cleanAts base n a = (la++[(⟨x.n,x.v⟩ : Mk.At)])++Mk.cleanAts base n (a.drop (m + 1))):=by show _ = _;rw [HCA.out,HCX.out];simp
        have HLL:=Lib.hid hll
        clear hown' hgrow ow10 hne11 hnn m0 m1 p1 hll HCA HCX
        go_wp2_with fail
        go_roundw
        case rel=>exact ⟨m + 1,la++[⟨x.n,x.v⟩],aon,capn,by omega,by rw [HLL.out];omega,by go_num,HCN,PB12,OW12,BE12⟩
        case measure=>simp [intOf];omega
       | true =>
        have hll2:=light_len base x.v
        have HLO:=Lib.hid (fun W=>rf_LightOf base x.v W)
        have HCA3 : Hid (Mk.cleanAt base n x = if Mk.goodLink (Mk.light base x.v) then [⟨x.n,Mk.light base x.v⟩] else []):=by show _ = _;rw [HCA2.out];rfl
        obtain ⟨lv,hlv⟩ : ∃ lv,Mk.light base x.v = lv:=⟨_,rfl⟩
        have HLO2 : Hid (Calls Tryz.prog 35 #[.string (st base),.string (st x.v)] w7 fun e w'=>e = .returned (.string (st lv))∧Below w7.heap.size w7 w'):=by have:=HLO.out w7;rw [hlv] at this;exact this
        rw [hlv] at hll2 HCA3
        have v1 : w7.cell? ⟨Q,1,none⟩ = some (.string (st x.v)):=Blk.cell QB.out 1
        clear HLO hlv HCA2
        go_wp2_with fail
        refine HLO2.out.mono ?_
        rintro e w8 ⟨rfl,hb8⟩
        have QB8:=Lib.hid (Blk.below QB.out hb8 (Blk.lt QB.out))
        have PB8:=Lib.hid (Blk.below PB7.out hb8 (Blk.lt PB7.out))
        have OW8:=Lib.hid (own_ap' OW7.out (Ap.of_below (S:=fun _=>False) hb8) (fun _ _ q=>q))
        have BE8:=Lib.hid (BE7.out.trans (hb8.mono (Nat.le_of_lt (Blk.lt PB7.out))))
        have y1 : w8.cell? ⟨Q,1,none⟩ = some (.string (st x.v)):=Blk.cell QB8.out 1
        have y2 : w8.frozen? ⟨Q,1,none⟩ = false:=Blk.frozen QB8.out 1
        have hQP : Q ≠ P:=by omega
        have hQO : (Value.slice aol la.length capl).ownBlock ≠ some Q:=HQO.out
        have QB9 : Hid (Blk (w8.setCell ⟨Q,1,none⟩ (.string (st lv))) Q 58 #[.string (st x.n),.string (st lv)]):=Blk.set_ QB8.out 1 _
        have PB9 : Hid (Blk (w8.setCell ⟨Q,1,none⟩ (.string (st lv))) P 52 #[.string (st n),.slice aol la.length capl,.string ⟨#[]⟩,.slice ao3 KF.len cap3]):=(Below.heap_setCell w8 ⟨Q,1,none⟩ _ P (fun e=>hQP e.symm)).trans PB8.out
        have OW9:=Lib.hid (ownsRow_setCell_other OW8.out (a:=⟨Q,1,none⟩) hQO (.string (st lv)))
        have BE9:=Lib.hid (BE8.out.setCell (p:=⟨Q,1,none⟩) (Nat.le_of_lt hPr) (.string (st lv)))
        clear HLO2 hb8 QB8 PB8 OW8 BE8 QB PB7 OW7 BE7 v1
        go_upto_region 23 with fail
        generalize w8.setCell ⟨Q,1,none⟩ (.string (st lv)) = w9 at QB9 PB9 OW9 BE9 ⊢
        clear y1 y2
        have z1 : w9.cell? ⟨Q,1,none⟩ = some (.string (st lv)):=Blk.cell QB9.out 1
        have his:=ref_IsSafe (st lv) w9 (by rw [st_size];omega)
        rw [bs_st] at his
        have hgl : Mk.goodLink lv = (Mg.isSafe lv && decide (lv.length≤3000)):=rfl
        obtain ⟨bs,hbs⟩ : ∃ bs,Mg.isSafe lv = bs:=⟨_,rfl⟩
        rw [hbs] at his hgl
        have HIS:=Lib.hid his
        have HGL:=Lib.hid hgl
        clear his hgl hbs
        cases bs with
        | false =>
         have HCX : Hid (Mk.cleanAts base n (a.drop m) = Mk.cleanAts base n (a.drop (m + 1))):=by show _ = _;rw [HCX0.out,HCA3.out,HGL.out];rfl
         clear HCX0 HCA3 HGL
         as_aux_lemma =>
         go_wp2_with fail
         refine HIS.out.mono ?_
         rintro e w10 ⟨rfl,hb10⟩
         have PB10:=Lib.hid (Blk.below PB9.out hb10 (Blk.lt PB9.out))
         have OW10:=Lib.hid (own_ap' OW9.out (Ap.of_below (S:=fun _=>False) hb10) (fun _ _ q=>q))
         have BE10:=Lib.hid (BE9.out.trans (hb10.mono (Nat.le_of_lt (Blk.lt PB9.out))))
         clear hb10 HIS PB9 OW9 BE9 QB9 z1
         have HCN : Hid (Mk.cleanAts base n a = la++Mk.cleanAts base n (a.drop (m + 1))):=by show _ = _;rw [HCA.out,HCX.out]
         clear HCA HCX
         go_wp2_with fail
         go_roundw
         case rel=>exact ⟨m + 1,la,aol,capl,by omega,by omega,by go_num,HCN,PB10,OW10,BE10⟩
         case measure=>simp [intOf];omega
        | true =>
         have HSL : Hid (∀ W,Calls Tryz.prog 37 #[.string (st lv)] W fun e w'=>e = .returned (.bool (decide (3000 < lv.length)))∧w' = W):=fun W=>rf_IsLong lv W
         by_cases h3 : 3000 < lv.length
         ·rw [decide_eq_true h3] at HSL
          have HCX : Hid (Mk.cleanAts base n (a.drop m) = Mk.cleanAts base n (a.drop (m + 1))):=by show _ = _;rw [HCX0.out,HCA3.out,HGL.out,decide_eq_false (by omega)];rfl
          clear HCX0 HCA3 HGL h3
          as_aux_lemma =>
          go_wp2_with fail
          refine HIS.out.mono ?_
          rintro e w10 ⟨rfl,hb10⟩
          have PB10:=Lib.hid (Blk.below PB9.out hb10 (Blk.lt PB9.out))
          have OW10:=Lib.hid (own_ap' OW9.out (Ap.of_below (S:=fun _=>False) hb10) (fun _ _ q=>q))
          have BE10:=Lib.hid (BE9.out.trans (hb10.mono (Nat.le_of_lt (Blk.lt PB9.out))))
          have z2 : w10.cell? ⟨Q,1,none⟩ = some (.string (st lv)):=Blk.cell (Blk.below QB9.out hb10 (Blk.lt QB9.out)) 1
          clear hb10 HIS PB9 OW9 BE9 QB9 z1
          go_wp2_with fail
          refine (HSL.out _).mono ?_
          rintro e w11 ⟨rfl,hw11⟩
          subst w11
          have HCN : Hid (Mk.cleanAts base n a = la++Mk.cleanAts base n (a.drop (m + 1))):=by show _ = _;rw [HCA.out,HCX.out]
          clear HCA HCX
          go_wp2_with fail
          go_roundw
          case rel=>exact ⟨m + 1,la,aol,capl,by omega,by omega,by go_num,HCN,PB10,OW10,BE10⟩
          case measure=>simp [intOf];omega
         ·rw [decide_eq_false h3] at HSL
          have HCX : Hid (Mk.cleanAts base n (a.drop m) = [⟨x.n,lv⟩]++Mk.cleanAts base n (a.drop (m + 1))):=by show _ = _;rw [HCX0.out,HCA3.out,HGL.out,decide_eq_true (by omega)];rfl
          clear HCX0 HCA3 HGL
          as_aux_lemma =>
          go_wp2_with fail
          refine HIS.out.mono ?_
          rintro e w10 ⟨rfl,hb10⟩
          have PB10:=Lib.hid (Blk.below PB9.out hb10 (Blk.lt PB9.out))
          have QB10:=Lib.hid (Blk.below QB9.out hb10 (Blk.lt QB9.out))
          have OW10:=Lib.hid (own_ap' OW9.out (Ap.of_below (S:=fun _=>False) hb10) (fun _ _ q=>q))
          have BE10:=Lib.hid (BE9.out.trans (hb10.mono (Nat.le_of_lt (Blk.lt PB9.out))))
          have z2 : w10.cell? ⟨Q,1,none⟩ = some (.string (st lv)):=Blk.cell QB10.out 1
          clear hb10 HIS PB9 OW9 BE9 QB9 z1
          go_wp2_with fail
          refine (HSL.out _).mono ?_
          rintro e w11 ⟨rfl,hw11⟩
          subst w11
          clear z2 HSL
          obtain ⟨i0,hi,hz0,hz1,hz2⟩:=info_parts Tryz.infoAttr
          have m0 : w10.cell? ⟨Q,0,none⟩ = some (.string (st x.n)):=Blk.cell QB10.out 0
          have m1 : w10.cell? ⟨Q,1,none⟩ = some (.string (st lv)):=Blk.cell QB10.out 1
          have p1 : w10.cell? ⟨P,1,none⟩ = some (.slice aol la.length capl):=Blk.cell PB10.out 1
          have ow10:=own_ap' OW10.out ((Ap.refl (fun _=>False) w10).alloc (.cells #[.string (st x.n),.string (st lv)] 58)) (fun _ _ q=>q)
          have hPW : P < w10.heap.size:=Blk.lt PB10.out
          go_wp2_with (at_builtin;refine wpList_append_own _ rfl _ _ 50 rfl (P + 1) 58 i0 (.agg #[.string ⟨#[]⟩,.string ⟨#[]⟩]) 2 32 Tryz.underlying50 hi hz0 hz1 hz2 rfl (by decide) _ _ _ rfl ow10 ⟨w10.heap.size,0,none⟩ 1 1 [.string (st x.n),.string (st lv)] rfl rfl (cells_new _ _ _) (by intro u hu;simp at hu;rcases hu with rfl | rfl <;> rfl) (by unfold maxLen;omega) (by omega) (by simp;omega) ?_)
          intro v' w11 hown' hgrow _
          obtain ⟨aon,capn,rfl⟩:=own_slice hown'
          have hne11 : (Value.slice aol la.length capl).ownBlock ≠ some P:=fun e=>by have:=(OW10.out.lt P e).1;omega
          have PB11 : Hid (Blk w11 P 52 #[.string (st n),.slice aol la.length capl,.string ⟨#[]⟩,.slice ao3 KF.len cap3]):=(hgrow.block P (by simp;omega) (fun e=>hne11 e.symm)).trans ((Below.heap_alloc w10 _ P hPW).trans PB10.out)
          have r1 : w11.cell? ⟨P,1,none⟩ = some (.slice aol la.length capl):=Blk.cell PB11.out 1
          have r2 : w11.frozen? ⟨P,1,none⟩ = false:=Blk.frozen PB11.out 1
          have hll : (la++[(⟨x.n,lv⟩ : Mk.At)]).length = la.length + 1:=by simp
          have PB12 : Hid (Blk (w11.setCell ⟨P,1,none⟩ (.slice aon (la.length + 1) capn)) P 52 #[.string (st n),.slice aon (la++[(⟨x.n,lv⟩ : Mk.At)]).length capn,.string ⟨#[]⟩,.slice ao3 KF.len cap3]):=by
           show Blk _ _ _ _
           rw [hll]
           exact Blk.set_ PB11.out 1 _
          have hnn : (Value.slice aon (la.length + 1) capn).ownBlock ≠ some P:=fun e=>by have:=(hown'.lt P e).1;omega
          have OW12 : Hid ((w11.setCell ⟨P,1,none⟩ (.slice aon (la.length + 1) capn)).ownsRow (P + 1) 58 2 (.slice aon (la++[(⟨x.n,lv⟩ : Mk.At)]).length capn) (la++[(⟨x.n,lv⟩ : Mk.At)]).length (atCells (la++[(⟨x.n,lv⟩ : Mk.At)]))):=by
           show World.ownsRow _ _ _ _ _ _ _
           rw [show (la++[(⟨x.n,lv⟩ : Mk.At)]).length = la.length + 1 by simp,show atCells (la++[(⟨x.n,lv⟩ : Mk.At)]) = atCells la++[.string (st x.n),.string (st lv)] by simp [atCells]]
           exact ownsRow_setCell_other hown' (a:=⟨P,1,none⟩) hnn _
          have BE12:=Lib.hid (((BE10.out.alloc (Nat.le_of_lt hPW) (.cells #[.string (st x.n),.string (st lv)] 58)).grown hgrow (by simp;omega) (fun k hk=>by have:=(OW10.out.lt k hk).1;omega)).setCell (p:=⟨P,1,none⟩) (Nat.le_refl _) (.slice aon (la.length + 1) capn))
          have HCN : Hid (Mk.cleanAts base n a = (la++[(⟨x.n,lv⟩ : Mk.At)])++Mk.cleanAts base n (a.drop (m + 1))):=by show _ = _;rw [HCA.out,HCX.out];simp
          have HLL:=Lib.hid hll
          clear hown' hgrow ow10 hne11 hnn m0 m1 p1 hll HCA HCX
          go_wp2_with fail
          go_roundw
          case rel=>exact ⟨m + 1,la++[⟨x.n,lv⟩],aon,capn,by omega,by rw [HLL.out];omega,by go_num,HCN,PB12,OW12,BE12⟩
          case measure=>simp [intOf];omega
     ·have HLA : Hid (Mk.cleanAts base n a = la):=by show _ = _;rw [HCA.out,List.drop_of_length_le (by omega)];simp [Mk.cleanAts]
      have hmi : ¬ (m : Int) < a.length:=by omega
      clear HCA
      as_aux_lemma =>
      have p0 : wr.cell? ⟨P,0,none⟩ = some (.string (st n)):=Blk.cell PB6.out 0
      have p1 : wr.cell? ⟨P,1,none⟩ = some (.slice aol la.length capl):=Blk.cell PB6.out 1
      have p2 : wr.cell? ⟨P,2,none⟩ = some (.string ⟨#[]⟩):=Blk.cell PB6.out 2
      have p3 : wr.cell? ⟨P,3,none⟩ = some (.slice ao3 KF.len cap3):=Blk.cell PB6.out 3
      have ATL : Hid (AtsV wr (fun b=>P + 1≤b∧b < wr.heap.size) (.slice aol la.length capl) la):=AtsV.of_own OW6.out (fun g q=>OW6.out.lt g q)
      have HHS:=Lib.hid (rf_hasSrc la _ _ wr ATL.out (by omega))
      have HNO4 : Hid (no = if n = [105,109,103]∧Mk.hasAt la [115,114,99] = false then .nil else .node n la [] KF .nil):=by show _ = _;rw [HNO3.out,HLA.out]
      obtain ⟨hs,hhs⟩ : ∃ hs,Mk.hasAt la [115,114,99] = hs:=⟨_,rfl⟩
      rw [hhs] at HHS HNO4
      have BL6:=Lib.hid (HBW.out wr HX6.out)
      have OF6:=Lib.hid (HOF.out wr HX6.out)
      clear HNO3 HLA hhs
      rcases name_cases n [105,109,103] with ⟨h,q⟩ | ⟨h,q⟩
      ·have qn : (n != [105,109,103]) = false:=by rw [bne,q];rfl
       cases hs with
       | false =>
        have HR : Hid (no = .nil):=by show _ = _;rw [HNO4.out,if_pos ⟨h,rfl⟩]
        rw [HR.out,Mk.joins_nil] at HJ2 hbk2
        clear HNO4 h HR
        as_aux_lemma =>
        go_wp2_with fail
        refine HHS.out.mono ?_
        rintro e w9 ⟨rfl,hw9⟩
        subst w9
        go_wp2_with fail
        go_roundw
        case rel=>exact ⟨k + 1,_,xs',Kr,by omega,by go_num,HJ2,hbk2,HKR,OF6,BL6⟩
        case measure=>simp [intOf];omega
       | true =>
        have HR : Hid (no = .node n la [] KF .nil):=by show _ = _;rw [HNO4.out,if_neg (fun q=>by cases q.2)]
        rw [HR.out,Mk.joins_one] at HJ2 hbk2
        clear HNO4 h HR
        as_aux_lemma =>
        go_wp2_with fail
        refine HHS.out.mono ?_
        rintro e w9 ⟨rfl,hw9⟩
        subst w9
        clear HHS
        have hP4 : w4.heap.size = P:=HPQ.out
        have OFK : Hid (OwnF wr w.heap.size (fun b=>Kr b ∨ Kn K w1 w4 b ∨ (P + 1≤b∧b < wr.heap.size)) u5 f' xs'):=by
         refine OF6.out.more (fun b q=>.inl q) ?_ ?_
         ·rintro g hg (q | (q | q) | q)
          ·exact OF6.out.ne g hg q
          ·have:=HK.out g q;have:=(HON.out g hg).1;omega
          ·have:=(HON.out g hg).2;omega
          ·have:=(HON.out g hg).2;omega
         ·rintro b (q | (q | q) | q)
          ·exact OF6.out.le b q
          ·exact (HFV.out wr HX6.out).2.2 b q
          ·have:=q.2;omega
          ·exact q.2
        have ATK : Hid (AtsV wr (fun b=>Kr b ∨ Kn K w1 w4 b ∨ (P + 1≤b∧b < wr.heap.size)) (.slice aol la.length capl) la):=ATL.out.frame (fun b q=>⟨.inr (.inr q),rfl⟩)
        have FOK : FoV wr (fun b=>Kr b ∨ Kn K w1 w4 b ∨ (P + 1≤b∧b < wr.heap.size)) (.slice ao3 KF.len cap3) KF:=FK4.out.frame (fun b q=>⟨.inr (.inl q),BE6.out.block b (by have:=Kn.le (fun b q=>(HFV.out w1 (Below.refl _ _)).2.2 b q) BX4.out.size b q;omega)⟩)
        obtain ⟨ao3',cap3',xs3,hq1,hq2,hq3,hq4⟩:=FOK
        injection hq1 with hq5 hq6 hq7
        subst hq5
        subst hq7
        have HQ2:=Lib.hid hq2
        have HQ3:=Lib.hid hq3
        have HKR4 : Hid (∀ b,(Kr b ∨ Kn K w1 w4 b ∨ (P + 1≤b∧b < wr.heap.size))→K b ∨ w.heap.size≤b):=by
         have:=BL1.out.size
         rintro b (q | (q | q) | q)
         ·exact HKR.out b q
         ·exact .inl q
         ·right;have:=q.1;omega
         ·right;have:=q.1;omega
        have HMB : Hid (f'.merges n = false):=by
         show _ = _
         rw [Bool.eq_false_iff]
         intro q
         exact HNE.out ((Mk.Fo.merges_iff _ _).1 q).1
        obtain ⟨i0,hi,hz0,hz1,hz2⟩:=info_parts Tryz.infoNode
        have ow10:=own_ap' OFK.out.own ((Ap.refl (fun _=>False) wr).alloc (.cells #[.string (st n),.slice aol la.length capl,.string ⟨#[]⟩,.slice ao3 KF.len cap3] 52)) (fun _ _ q=>q)
        have hal2:=(Below.refl wr.heap.size wr).alloc (Nat.le_refl _) (.cells #[.string (st n),.slice aol la.length capl,.string ⟨#[]⟩,.slice ao3 KF.len cap3] 52)
        have hsz6:=BL6.out.size
        clear hq6 hq2 hq3 hP4 HFV HOF HBW HTB OF6 ATL PB6 HON HKR1
        go_wp2_with (at_builtin;refine wpList_append_fresh rfl _ _ 22 rfl w.heap.size 52 i0 (.agg #[.string ⟨#[]⟩,.slice none 0 0,.string ⟨#[]⟩,.slice none 0 0]) 4 80 Tryz.underlying22 hi hz0 hz1 hz2 rfl (by decide) _ _ _ rfl ow10 ⟨wr.heap.size,0,none⟩ 1 1 [.string (st n),.slice aol la.length capl,.string ⟨#[]⟩,.slice ao3 KF.len cap3] rfl rfl (cells_new _ _ _) (by intro u hu;simp at hu;rcases hu with rfl | rfl | rfl | rfl <;> rfl) (by decide) (by unfold maxLen;omega) (by omega) (by simp;omega) ?_)
        intro v' w12 hown' hgrow hfresh
        have hfr2 : v'.ownBlock = u5.ownBlock ∨ v'.ownBlock = some (wr.alloc (.cells #[.string (st n),.slice aol la.length capl,.string ⟨#[]⟩,.slice ao3 KF.len cap3] 52)).heap.size:=hfresh.imp id (fun e=>by rw [e];simp)
        have OFP:=Lib.hid (OFK.out.pushed (t:=[]) ATK.out (ao:=ao3) (cap:=cap3) (zs:=xs3) (k:=KF) HQ2.out hq4 HQ3.out HMB.out hal2 hown' hgrow hfr2)
        have BL12:=Lib.hid (BL6.out.trans ((hal2.mono hsz6).grown hgrow (by have:=hal2.size;omega) (fun q hq=>(OFK.out.own.lt q hq).1)))
        clear hown' hgrow hfresh hfr2 ow10 hal2 OFK ATK HQ2 HQ3 HMB hq4 p0 p1 p2 p3 BL6
        go_wp2_with fail
        go_roundw
        case rel=>exact ⟨k + 1,_,_,_,by omega,by go_num,HJ2,hbk2,HKR4,OFP,BL12⟩
        case measure=>simp [intOf];omega
      ·have qn : (n != [105,109,103]) = true:=by rw [bne,q];rfl
       have HR : Hid (no = .node n la [] KF .nil):=by show _ = _;rw [HNO4.out,if_neg (fun q=>h q.1)]
       rw [HR.out,Mk.joins_one] at HJ2 hbk2
       clear HNO4 h HR HHS
       as_aux_lemma =>
       have hP4 : w4.heap.size = P:=HPQ.out
       have OFK : Hid (OwnF wr w.heap.size (fun b=>Kr b ∨ Kn K w1 w4 b ∨ (P + 1≤b∧b < wr.heap.size)) u5 f' xs'):=by
        refine OF6.out.more (fun b q=>.inl q) ?_ ?_
        ·rintro g hg (q | (q | q) | q)
         ·exact OF6.out.ne g hg q
         ·have:=HK.out g q;have:=(HON.out g hg).1;omega
         ·have:=(HON.out g hg).2;omega
         ·have:=(HON.out g hg).2;omega
        ·rintro b (q | (q | q) | q)
         ·exact OF6.out.le b q
         ·exact (HFV.out wr HX6.out).2.2 b q
         ·have:=q.2;omega
         ·exact q.2
       have ATK : Hid (AtsV wr (fun b=>Kr b ∨ Kn K w1 w4 b ∨ (P + 1≤b∧b < wr.heap.size)) (.slice aol la.length capl) la):=ATL.out.frame (fun b q=>⟨.inr (.inr q),rfl⟩)
       have FOK : FoV wr (fun b=>Kr b ∨ Kn K w1 w4 b ∨ (P + 1≤b∧b < wr.heap.size)) (.slice ao3 KF.len cap3) KF:=FK4.out.frame (fun b q=>⟨.inr (.inl q),BE6.out.block b (by have:=Kn.le (fun b q=>(HFV.out w1 (Below.refl _ _)).2.2 b q) BX4.out.size b q;omega)⟩)
       obtain ⟨ao3',cap3',xs3,hq1,hq2,hq3,hq4⟩:=FOK
       injection hq1 with hq5 hq6 hq7
       subst hq5
       subst hq7
       have HQ2:=Lib.hid hq2
       have HQ3:=Lib.hid hq3
       have HKR4 : Hid (∀ b,(Kr b ∨ Kn K w1 w4 b ∨ (P + 1≤b∧b < wr.heap.size))→K b ∨ w.heap.size≤b):=by
        have:=BL1.out.size
        rintro b (q | (q | q) | q)
        ·exact HKR.out b q
        ·exact .inl q
        ·right;have:=q.1;omega
        ·right;have:=q.1;omega
       have HMB : Hid (f'.merges n = false):=by
        show _ = _
        rw [Bool.eq_false_iff]
        intro q
        exact HNE.out ((Mk.Fo.merges_iff _ _).1 q).1
       obtain ⟨i0,hi,hz0,hz1,hz2⟩:=info_parts Tryz.infoNode
       have ow10:=own_ap' OFK.out.own ((Ap.refl (fun _=>False) wr).alloc (.cells #[.string (st n),.slice aol la.length capl,.string ⟨#[]⟩,.slice ao3 KF.len cap3] 52)) (fun _ _ q=>q)
       have hal2:=(Below.refl wr.heap.size wr).alloc (Nat.le_refl _) (.cells #[.string (st n),.slice aol la.length capl,.string ⟨#[]⟩,.slice ao3 KF.len cap3] 52)
       have hsz6:=BL6.out.size
       clear hq6 hq2 hq3 hP4 HFV HOF HBW HTB OF6 ATL PB6 HON HKR1
       go_wp2_with (at_builtin;refine wpList_append_fresh rfl _ _ 22 rfl w.heap.size 52 i0 (.agg #[.string ⟨#[]⟩,.slice none 0 0,.string ⟨#[]⟩,.slice none 0 0]) 4 80 Tryz.underlying22 hi hz0 hz1 hz2 rfl (by decide) _ _ _ rfl ow10 ⟨wr.heap.size,0,none⟩ 1 1 [.string (st n),.slice aol la.length capl,.string ⟨#[]⟩,.slice ao3 KF.len cap3] rfl rfl (cells_new _ _ _) (by intro u hu;simp at hu;rcases hu with rfl | rfl | rfl | rfl <;> rfl) (by decide) (by unfold maxLen;omega) (by omega) (by simp;omega) ?_)
       intro v' w12 hown' hgrow hfresh
       have hfr2 : v'.ownBlock = u5.ownBlock ∨ v'.ownBlock = some (wr.alloc (.cells #[.string (st n),.slice aol la.length capl,.string ⟨#[]⟩,.slice ao3 KF.len cap3] 52)).heap.size:=hfresh.imp id (fun e=>by rw [e];simp)
       have OFP:=Lib.hid (OFK.out.pushed (t:=[]) ATK.out (ao:=ao3) (cap:=cap3) (zs:=xs3) (k:=KF) HQ2.out hq4 HQ3.out HMB.out hal2 hown' hgrow hfr2)
       have BL12:=Lib.hid (BL6.out.trans ((hal2.mono hsz6).grown hgrow (by have:=hal2.size;omega) (fun q hq=>(OFK.out.own.lt q hq).1)))
       clear hown' hgrow hfresh hfr2 ow10 hal2 OFK ATK HQ2 HQ3 HMB hq4 p0 p1 p2 p3 BL6
       go_wp2_with fail
       go_roundw
       case rel=>exact ⟨k + 1,_,_,_,by omega,by go_num,HJ2,hbk2,HKR4,OFP,BL12⟩
       case measure=>simp [intOf];omega
   ·have hke : k = f.len:=by omega
    rw [hke,Mk.Fo.drop_len] at HJ
    have HJ2 : Hid (Mk.cleanOn base .nil f = f'):=HJ
    have hki : ¬ (k : Int) < f.len:=by omega
    clear HJ HV hke
    as_aux_lemma =>
    go_wp2_with fail
    go_ret
    refine ⟨_,rfl,?_,BL.out⟩
    rw [HJ2.out]
    refine OF.out.foV (fun b hb=>?_) (fun g hg=>.inr (OF.out.own.lt g hg))
    rcases HKR.out b hb with q | q
    ·exact .inl q
    ·exact .inr ⟨q,OF.out.le b hb⟩
end Go.Proofs.YteidgdpaolieaaaGreatDoor

/- Contract of the reference's PutOf. -/
namespace Go.Proofs.YteidgdpaolieaaaGreatDoor
open Go.RowKit
set_option maxHeartbeats 3200000 in
set_option maxRecDepth 100000 in
theorem rf_PutOf (s : List UInt8) (w : World) (hl : s.length≤68719476736) : Calls Tryz.prog 75 #[.string (st s)] w fun e w'=>e = .returned (.string (st (Mk.put s)))∧w' = w:=by
 have e2 : (st s).size = s.length:=st_size s
 have hst : ∀ l : List UInt8,(st l).toList = l:=fun l=>Lib.toList_data _
 have hsz : ∀ l : List UInt8,(st l).size = l.length:=st_size
 have hp6:=Mk.put_len6 s
 go_enter Tryz.func75,Tryz.ntmps75
 go_wp2_with fail
 go_loopw [3,4] (fun o i wr=>∃ k : Nat,k≤s.length∧o = .string (st (Mk.put (s.take k)))∧i = .int .i64 k∧wr = w) (fun _ i _=>s.length - (intOf i).toNat)
 case atStart=>exact ⟨0,Nat.zero_le _,rfl,rfl,rfl⟩
 case round =>
  obtain ⟨k,hk,rfl,rfl,rfl⟩:=hrel
  by_cases hlt : k < s.length
  ·have hpt:=Mk.put_take s k hlt
   have hle:=Mk.put_take_le s k
   obtain ⟨x,hx⟩ : ∃ x,s[k] = x:=⟨_,rfl⟩
   have hget : ∀ h,(st s)[k]'h = x:=fun _=>hx
   rw [hx] at hpt
   generalize hP : Mk.put (s.take k) = P at hpt hle
   have HPT:=Lib.hid hpt
   clear hpt hP
   have q0 : ∀ l : List UInt8,l.length≤6→¬ 9223372036854775807 < (st P).size + (st l).size:=fun l hl=>by rw [st_size,st_size];omega
   rcases byte_cases x 38 with ⟨h1,q1⟩ | ⟨h1,q1⟩
   ·have q2 : ((x.toNat : Int) == 38) = true:=q1
    have q3:=q0 [38,97,109,112,59] (by decide)
    have HV : Hid (Mk.put (s.take (k + 1)) = P++[38,97,109,112,59]):=by show _ = _;rw [HPT.out,h1];rfl
    clear h1 q1 hx HPT q0
    go_wp2_with fail
    go_roundw
    case rel=>exact ⟨k + 1,by omega,by rw [HV.out,← rf_app];rfl,by go_num,trivial⟩
    case measure=>simp [intOf];omega
   have q2 : ((x.toNat : Int) == 38) = false:=q1
   clear q1
   rcases byte_cases x 60 with ⟨h2,q1⟩ | ⟨h2,q1⟩
   ·have q4 : ((x.toNat : Int) == 60) = true:=q1
    have q3:=q0 [38,108,116,59] (by decide)
    have HV : Hid (Mk.put (s.take (k + 1)) = P++[38,108,116,59]):=by show _ = _;rw [HPT.out,h2];rfl
    clear h1 h2 q1 hx HPT q0
    go_wp2_with fail
    go_roundw
    case rel=>exact ⟨k + 1,by omega,by rw [HV.out,← rf_app];rfl,by go_num,trivial⟩
    case measure=>simp [intOf];omega
   have q4 : ((x.toNat : Int) == 60) = false:=q1
   clear q1
   rcases byte_cases x 62 with ⟨h3,q1⟩ | ⟨h3,q1⟩
   ·have q5 : ((x.toNat : Int) == 62) = true:=q1
    have q3:=q0 [38,103,116,59] (by decide)
    have HV : Hid (Mk.put (s.take (k + 1)) = P++[38,103,116,59]):=by show _ = _;rw [HPT.out,h3];rfl
    clear h1 h2 h3 q1 hx HPT q0
    go_wp2_with fail
    go_roundw
    case rel=>exact ⟨k + 1,by omega,by rw [HV.out,← rf_app];rfl,by go_num,trivial⟩
    case measure=>simp [intOf];omega
   have q5 : ((x.toNat : Int) == 62) = false:=q1
   clear q1
   rcases byte_cases x 34 with ⟨h4,q1⟩ | ⟨h4,q1⟩
   ·have q6 : ((x.toNat : Int) == 34) = true:=q1
    have q3:=q0 [38,113,117,111,116,59] (by decide)
    have HV : Hid (Mk.put (s.take (k + 1)) = P++[38,113,117,111,116,59]):=by show _ = _;rw [HPT.out,h4];rfl
    clear h1 h2 h3 h4 q1 hx HPT q0
    go_wp2_with fail
    go_roundw
    case rel=>exact ⟨k + 1,by omega,by rw [HV.out,← rf_app];rfl,by go_num,trivial⟩
    case measure=>simp [intOf];omega
   have q6 : ((x.toNat : Int) == 34) = false:=q1
   have q3:=q0 [x] (by simp)
   have HV : Hid (Mk.put (s.take (k + 1)) = P++[x]):=by
    show _ = _
    rw [HPT.out]
    unfold Mk.esc
    rw [if_neg h1,if_neg h2,if_neg h3,if_neg h4]
   have hx1 : (st s).extract k (k + 1) = st [x]:=by rw [rf_one s k hlt,hx]
   clear h1 h2 h3 h4 q1 hx HPT q0
   go_wp2_with fail
   go_roundw
   case rel=>exact ⟨k + 1,by omega,by rw [HV.out,← rf_app],by go_num,trivial⟩
   case measure=>simp [intOf];omega
  ·have : k = s.length:=by omega
   subst this
   go_wp2_with fail
   go_ret
   exact ⟨by rw [List.take_of_length_le (Nat.le_refl _)];rfl,rfl⟩
end Go.Proofs.YteidgdpaolieaaaGreatDoor
