/- Contracts of the program's padded and Print: a time as it is written. Condition: the library's table of powers is as it was laid. -/
import Derived.Test.YtjonkbdldebkiaaGreatDoorYWtPlain
import Derived.Test.YtjonkbdldebkiaaGreatDoorYMkTok2
import Derived.Lib.AppendIntMem
import Derived.Deep.LoopGhost
import Derived.Test.YtjonkbdldebkiaaGreatDoorYMkClean5
set_option linter.unusedVariables false
set_option linter.unusedSimpArgs false
namespace Go.Proofs.YtjonkbdldebkiaaGreatDoor
open Go.RowKit
/-- the library's table of powers of ten. -/
def Pow (w : World) : Prop := Lib.TabIs Tryz.prog w "internal/strconv.uint64pow10" .u64 Lib.pow10Tab
theorem st_app2 (x y : List UInt8) : st x++st y = st (x++y):=by
 apply ByteArray.ext
 simp [st]
set_option maxHeartbeats 1000000 in
theorem dt_padded (k n : Nat) (hk : k = 1 ∨ k = 3) (hn : n < 10 ^ (k + 1)) (w : World) (hp : Pow w) :
  Calls Tryz.prog 66 #[.int .i64 n,.int .i64 (k + 1)] w fun e w'=>e = .returned (.string (st (Fd.digs (k + 1) n)))∧Below w.heap.size w w':=by
 obtain ⟨hd1,hd2⟩:=Fd.dec_digs k n hn
 have HD1:=Lib.hid hd1
 have HD2:=Lib.hid hd2
 have hn9 : (n : Int)≤9223372036854775807:=by
  have : n < 10000:=by rcases hk with rfl | rfl <;> omega
  omega
 have HI:=Lib.hid (Tryz.strconv_Itoa (n : Int) (by omega) hn9 w hp)
 have hit : Lib.itoa (n : Int) = Lib.decDigits n:=by
  unfold Lib.itoa
  rw [if_neg (by omega)]
  rfl
 rw [hit] at HI
 have HK : Hid (k = 1 ∨ k = 3):=hk
 have hk4 : k + 1≤4:=by omega
 have HM : Hid (((k : Int) + 1) = ((k + 1 : Nat) : Int)):=by show _ = _;omega
 clear hd1 hd2 hn hn9 hp hit hk
 rw [HM.out]
 obtain ⟨m,hm⟩ : ∃ m,k + 1 = m:=⟨_,rfl⟩
 rw [hm] at HD1 HD2 hk4 ⊢
 clear HM HK hm
 generalize Lib.decDigits n = dd at HD1 HD2 HI
 go_enter Tryz.func66,Tryz.ntmps66
 go_wp2_with fail
 refine HI.out.mono ?_
 rintro e w1 ⟨rfl,q,os,hw1⟩
 have B1 : Hid (Below w.heap.size w w1):=by rw [hw1];exact Lib.below_grow _ w (Nat.le_refl _) q os
 clear hw1 HI
 go_wp2_with fail
 go_loopg [5] (m + 1) (fun g s wx=>∃ (j : Nat) (X : ByteArray),s = .string X∧Hid (X = st (List.replicate j 48++dd))∧j + dd.length≤m∧m≤j + dd.length + g∧Hid (wx = w1))
 case atStart=>exact ⟨0,st dd,rfl,rfl,by have:=HD1.out;omega,by omega,rfl⟩
 case round =>
  obtain ⟨j,X,rfl,HX,hj1,hj2,HW⟩:=hrel
  obtain rfl:=HW.out
  have hX : X.size = j + dd.length:=by rw [HX.out,st_size,List.length_append,List.length_replicate]
  by_cases hlt : X.size < m
  ·obtain ⟨g',rfl⟩ : ∃ g',gk = g' + 1:=⟨gk - 1,by omega⟩
   have q1 : ¬ 9223372036854775807 < 1 + X.size:=by omega
   have HX2 : Hid ((⟨#[48]⟩ : ByteArray)++X = st (List.replicate (j + 1) 48++dd)):=by
    show _ = _
    rw [HX.out,show (⟨#[48]⟩ : ByteArray) = st [48] from rfl,st_app2,List.replicate_succ]
    rfl
   have r1 : j + 1 + dd.length≤m:=by omega
   have r2 : m≤j + 1 + dd.length + g':=by omega
   clear hX HX hj1 hj2
   go_wp2_with fail
   go_roundg g'
   case measure=>omega
   case rel=>exact ⟨j + 1,_,rfl,HX2,r1,r2,rfl⟩
  ·have HE : Hid (X = st (Fd.digs m n)):=by
    show _ = _
    rw [HX.out,← HD2.out,show m - dd.length = j by omega]
   clear hX HX hj1 hj2
   go_wp2_with fail
   go_ret
   exact ⟨ret_str HE.out,B1.out⟩
end Go.Proofs.YtjonkbdldebkiaaGreatDoor

/- Contract of the program's date.Print: a time as it is written. Conditions: from 0 to the end of 2099; the library's table of powers is as it was laid. -/
namespace Fd
theorem yrs_go (n : Nat) (y d : Int) (h : 365 + lp y≤d) : yrs (n + 1) y d = yrs n (y + 1) (d - (365 + lp y)):=by rw [yrs,if_pos h]
theorem yrs_stop (n : Nat) (y d : Int) (h : ¬ 365 + lp y≤d) : yrs n y d = (y,d):=by
 cases n with
 | zero=>rfl
 | succ n=>rw [yrs,if_neg h]
theorem mths_go (n : Nat) (y m d : Int) (h : long y m≤d) : mths (n + 1) y m d = mths n y (m + 1) (d - long y m):=by rw [mths,if_pos h]
theorem mths_stop (n : Nat) (y m d : Int) (h : ¬ long y m≤d) : mths n y m d = (m,d):=by
 cases n with
 | zero=>rfl
 | succ n=>rw [mths,if_neg h]
end Fd
namespace Go.Proofs.YtjonkbdldebkiaaGreatDoor
open Go.RowKit
theorem Pow.below {w w' : World} (h : Pow w) (hb : Below w.heap.size w w') : Pow w':=by
 unfold Pow Lib.TabIs World.var? at *
 cases hg : Tryz.prog.globalNamed "internal/strconv.uint64pow10" with
 | none=>rw [hg] at h;cases h
 | some g =>
  rw [hg] at h
  simp only [Option.bind_some] at h ⊢
  cases hh : w.heap[g]? with
  | none=>rw [hh] at h;cases h
  | some o=>rw [hb.block g (Array.getElem?_eq_some_iff.1 hh).1,hh];rw [hh] at h;exact h
theorem dt_pad2 (k n : Nat) (x m : Int) (hx : x = n) (hm : m = k + 1) (hk : k = 1 ∨ k = 3) (hn : n < 10 ^ (k + 1)) (w : World) (hp : Pow w) :
  Calls Tryz.prog 66 #[.int .i64 x,.int .i64 m] w fun e w'=>e = .returned (.string (st (Fd.digs (k + 1) n)))∧Below w.heap.size w w':=by
 subst hx;subst hm
 exact dt_padded k n hk hn w hp
set_option maxHeartbeats 4000000 in
set_option maxRecDepth 100000 in
/-- the last of it: what is written. -/
theorem dt_Print (t : Int) (h0 : 0≤t) (h1 : t≤4102444799) (w : World) (hp : Pow w) :
  Calls Tryz.prog 25 #[.int .i64 t] w fun e w'=>e = .returned (.tuple #[.string (st (Fd.dateB t)),.int .i64 0])∧Below w.heap.size w w':=by
 obtain ⟨yr1,yr2,yr3,yr4⟩:=Fd.year_range t h0 h1
 obtain ⟨mr1,mr2,mr3,mr4⟩:=Fd.mon_range t h0 h1
 have HP:=Lib.hid hp
 have hml:=Fd.long_le (Fd.yearOf t) (Fd.monOf t)
 have hlp:=Fd.lp_01 (Fd.yearOf t)
 have q1 : t.tdiv 86400 = t / 86400:=tdiv_is h0
 have q2 : t.tmod 86400 = t % 86400:=tmod_is h0
 have HB : Hid (Fd.dateB t = Fd.digs 4 (Fd.yearOf t).toNat++[45]++Fd.digs 2 (Fd.monOf t).toNat++[45]++Fd.digs 2 (Fd.mdayOf t + 1).toNat++[84]++Fd.digs 2 (t % 86400 / 3600).toNat++[58]++Fd.digs 2 (t % 86400 / 60 % 60).toNat++[58]++Fd.digs 2 (t % 86400 % 60).toNat++[90]):=rfl
 have HY : Hid (Fd.yrs 200 1970 (t / 86400) = (Fd.yearOf t,Fd.dayOf t)):=rfl
 have HMM : Hid (Fd.mths 12 (Fd.yearOf t) 1 (Fd.dayOf t) = (Fd.monOf t,Fd.mdayOf t)):=rfl
 have hd1 : 0≤t / 86400:=by omega
 have hd2 : t / 86400≤47481:=by omega
 have hs1 : 0≤t % 86400:=by omega
 have hs2 : t % 86400 < 86400:=by omega
 have hE : Fd.mdayOf t≤30:=by omega
 have hD : Fd.dayOf t≤365:=by omega
 have HR : Hid (Fd.dayOf t < Fd.rest (Fd.yearOf t) 1):=by show _ < Fd.rest _ 1;have : Fd.rest (Fd.yearOf t) 1 = 365 + Fd.lp (Fd.yearOf t):=rfl;omega
 have Q1:=Lib.hid q1
 have Q2:=Lib.hid q2
 clear hp q1 q2 yr4 mr4 hml hlp
 generalize Fd.dateB t = out at HB ⊢
 generalize Fd.yearOf t = Y at *
 generalize Fd.dayOf t = D at *
 generalize Fd.monOf t = M at *
 generalize Fd.mdayOf t = E at *
 have HAH:=Lib.hid (fun (y : Int) (a : Int) (ha : a = Fd.ahead y) (hy : 0≤y) (h2 : y≤100000) (W : World)=>ha ▸ dt_ahead y hy h2 W)
 go_enter Tryz.func25,Tryz.ntmps25
 go_wp2_with fail
 go_loopw [4,5] (fun y d wr=>∃ (n : Nat) (yy dd : Int),y = .int .i64 yy∧d = .int .i64 dd∧1970≤yy∧yy + n≤2170∧0≤dd∧dd≤47481∧Hid (dd < 365 * n)∧Hid (Fd.yrs n yy dd = (Y,D))∧Hid (w = wr)) (fun _ d _=>(intOf d).toNat)
 case atStart=>exact ⟨200,1970,t / 86400,rfl,rfl,by omega,by omega,hd1,hd2,by show _ < _;omega,HY,rfl⟩
 case round =>
  obtain ⟨n,yy,dd,rfl,rfl,r1,r2,r3,r4,HN,HYY,HW⟩:=hrel
  have hw:=HW.out
  clear HW
  subst hw
  have hl:=Fd.year_len yy (by omega)
  have hlp:=Fd.lp_01 yy
  obtain ⟨a0,ha0⟩ : ∃ a,a = Fd.ahead yy:=⟨_,rfl⟩
  obtain ⟨a1,ha1⟩ : ∃ a,a = Fd.ahead (yy + 1):=⟨_,rfl⟩
  have b0 : 0≤a0∧a0≤900000:=by rw [ha0];unfold Fd.ahead;rw [if_neg (by omega)];omega
  have b1 : 0≤a1∧a1≤900000:=by rw [ha1];unfold Fd.ahead;rw [if_neg (by omega)];omega
  obtain ⟨b2,b3⟩:=b0
  obtain ⟨b4,b5⟩:=b1
  have HA0:=Lib.hid (HAH.out yy a0 ha0 (by omega) (by omega))
  have HA1:=Lib.hid (HAH.out (yy + 1) a1 ha1 (by omega) (by omega))
  have HL : Hid (a1 - a0 = 365 + Fd.lp yy):=by show _ = _;rw [ha0,ha1];exact hl
  by_cases hlt : a1 - a0≤dd
  ·have hle : 365≤a1 - a0:=by have:=HL.out;omega
   have hn1 : 1≤n:=by have:=HN.out;omega
   have HYN : Hid (Fd.yrs (n - 1) (yy + 1) (dd - (a1 - a0)) = (Y,D)):=by
    show _ = _
    have h:=HYY.out
    rw [show n = (n - 1) + 1 by omega,Fd.yrs_go _ _ _ (by have:=HL.out;omega)] at h
    rw [HL.out];exact h
   have HN2 : Hid (dd - (a1 - a0) < 365 * ((n - 1 : Nat) : Int)):=by show _ < _;have:=HN.out;omega
   clear hl hlp ha0 ha1 HL HN HYY
   go_wp2_with fail
   refine (HA1.out _).mono ?_
   rintro e wx ⟨rfl,hwx⟩
   subst wx
   go_wp2_with fail
   refine (HA0.out _).mono ?_
   rintro e wx ⟨rfl,hwx⟩
   subst wx
   go_wp2_with fail
   refine (HA1.out _).mono ?_
   rintro e wx ⟨rfl,hwx⟩
   subst wx
   go_wp2_with fail
   refine (HA0.out _).mono ?_
   rintro e wx ⟨rfl,hwx⟩
   subst wx
   go_wp2_with fail
   go_roundw
   case rel=>exact ⟨n - 1,yy + 1,dd - (a1 - a0),by go_num,by go_num,by omega,by omega,by omega,by omega,HN2,HYN,by first | exact rfl | exact trivial⟩
   case measure=>simp [intOf];omega
  ·have e:=HYY.out
   rw [Fd.yrs_stop _ _ _ (by have:=HL.out;omega)] at e
   have E12:=Lib.hid (Prod.mk.inj e)
   clear hl hlp ha0 ha1 HL HN HYY e
   go_wp2_with fail
   refine (HA1.out _).mono ?_
   rintro e wx ⟨rfl,hwx⟩
   subst wx
   go_wp2_with fail
   refine (HA0.out _).mono ?_
   rintro e wx ⟨rfl,hwx⟩
   subst wx
   go_wp2_with fail
   clear HA0 HA1 HAH b2 b3 b4 b5 hlt
   obtain ⟨e1,e2⟩:=E12.out
   clear E12
   subst e1;subst e2
   have HLG:=Lib.hid (fun (m : Int) (h1 : 1≤m) (h2 : m≤12) (W : World)=>dt_long yy m (by omega) h1 h2 W)
   go_loopw [5,6] (fun d m wr=>∃ (n : Nat) (mm dd : Int),d = .int .i64 dd∧m = .int .i64 mm∧1≤mm∧mm≤13∧Hid (mm + n = 13)∧0≤dd∧dd≤365∧Hid (dd < Fd.rest yy mm)∧Hid (Fd.mths n yy mm dd = (M,E))∧Hid (Below w.heap.size w wr)) (fun d _ _=>(intOf d).toNat)
   case atStart=>exact ⟨12,1,dd,rfl,rfl,by omega,by omega,rfl,by omega,by omega,HR,HMM,Below.refl _ _⟩
   case round =>
    clear HR HMM
    obtain ⟨n,mm,d1,rfl,rfl,s1,s2,HN,s3,s4,HRR,HM2,BL⟩:=hrel
    have hn1 : 1≤n:=by
     rcases Nat.eq_zero_or_pos n with q | q
     ·exfalso
      have h1:=HN.out
      have h2:=HRR.out
      have h3 : mm = 13:=by omega
      rw [h3,show Fd.rest yy 13 = 0 from rfl] at h2
      omega
     ·exact q
    have hmm : mm≤12:=by have:=HN.out;omega
    have hl:=Fd.long_le yy mm
    have HRS:=Lib.hid (Fd.rest_step yy mm s1 hmm)
    have HLm:=HLG.out mm s1 hmm
    obtain ⟨L,hL⟩ : ∃ L,Fd.long yy mm = L:=⟨_,rfl⟩
    rw [hL] at HLm hl HRS
    have HLL:=Lib.hid hL
    have HLM:=Lib.hid HLm
    obtain ⟨l1,l2⟩:=hl
    clear hL HLm
    by_cases hlt : L≤d1
    ·have HM3 : Hid (Fd.mths (n - 1) yy (mm + 1) (d1 - L) = (M,E)):=by
      show _ = _
      have h:=HM2.out
      rw [show n = (n - 1) + 1 by omega,Fd.mths_go _ _ _ _ (by rw [HLL.out];exact hlt),HLL.out] at h
      exact h
     have HR2 : Hid (d1 - L < Fd.rest yy (mm + 1)):=by show _ < _;have h1:=HRR.out;have h2:=HRS.out;omega
     have HN2 : Hid (mm + 1 + ((n - 1 : Nat) : Int) = 13):=by show _ = _;have:=HN.out;omega
     clear HM2 HRR HRS HN HLL
     go_wp2_with fail
     refine (HLM.out _).mono ?_
     rintro e w1 ⟨rfl,hb1⟩
     have B1:=Lib.hid (BL.out.trans (hb1.mono BL.out.size))
     clear hb1 BL
     go_wp2_with fail
     refine (HLM.out _).mono ?_
     rintro e w2 ⟨rfl,hb2⟩
     have B2:=Lib.hid (B1.out.trans (hb2.mono B1.out.size))
     clear hb2 B1
     go_wp2_with fail
     go_roundw
     case rel=>exact ⟨n - 1,mm + 1,d1 - L,by go_num,by go_num,by omega,by omega,HN2,by omega,by omega,HR2,HM3,B2⟩
     case measure=>simp [intOf];omega
    ·have e:=HM2.out
     rw [Fd.mths_stop _ _ _ _ (by rw [HLL.out];exact hlt)] at e
     have E12:=Lib.hid (Prod.mk.inj e)
     have g1 : mm≤12:=hmm
     have g2 : d1≤30:=by omega
     clear HM2 HRR HRS HN HLL e
     go_wp2_with fail
     refine (HLM.out _).mono ?_
     rintro e w1 ⟨rfl,hb1⟩
     have B1:=Lib.hid (BL.out.trans (hb1.mono BL.out.size))
     clear hb1 BL HLM HLG
     obtain ⟨e1,e2⟩:=E12.out
     clear E12
     subst e1;subst e2
     go_upto_region 12 with fail
     obtain ⟨sn,hsn⟩ : ∃ sn : Nat,t % 86400 = (sn : Int):=⟨(t % 86400).toNat,by omega⟩
     obtain ⟨yn,rfl⟩ : ∃ yn : Nat,yy = (yn : Int):=⟨yy.toNat,by omega⟩
     obtain ⟨mn,rfl⟩ : ∃ mn : Nat,mm = (mn : Int):=⟨mm.toNat,by omega⟩
     obtain ⟨en,rfl⟩ : ∃ en : Nat,d1 = (en : Int):=⟨d1.toNat,by omega⟩
     rw [hsn] at HB hs2 hs1 ⊢
     have HE : Hid (out = Fd.digs 4 yn++[45]++Fd.digs 2 mn++[45]++Fd.digs 2 (en + 1)++[84]++Fd.digs 2 (sn / 3600)++[58]++Fd.digs 2 (sn / 60 % 60)++[58]++Fd.digs 2 (sn % 60)++[90]):=by
      have h:=HB.out
      rw [show ((en : Int) + 1).toNat = en + 1 by omega,show ((sn : Int) / 3600).toNat = sn / 3600 by omega,show ((sn : Int) / 60 % 60).toNat = sn / 60 % 60 by omega,show ((sn : Int) % 60).toNat = sn % 60 by omega,Int.toNat_natCast,Int.toNat_natCast] at h
      exact h
     have P1 : Hid (Pow w1):=Pow.below HP.out B1.out
     have HQ1:=Lib.hid (fun W (hW : Pow W)=>dt_pad2 3 yn (yn : Int) 4 rfl rfl (.inr rfl) (by omega) W hW)
     have HQ2:=Lib.hid (fun W (hW : Pow W)=>dt_pad2 1 mn (mn : Int) 2 rfl rfl (.inl rfl) (by omega) W hW)
     have HQ3:=Lib.hid (fun W (hW : Pow W)=>dt_pad2 1 (en + 1) ((en : Int) + 1) 2 (by omega) rfl (.inl rfl) (by omega) W hW)
     have HQ4:=Lib.hid (fun W (hW : Pow W)=>dt_pad2 1 (sn / 3600) ((sn : Int).tdiv 3600) 2 (by rw [tdiv_is (by omega)];omega) rfl (.inl rfl) (by omega) W hW)
     have HQ5:=Lib.hid (fun W (hW : Pow W)=>dt_pad2 1 (sn / 60 % 60) (((sn : Int).tdiv 60).tmod 60) 2 (by rw [tdiv_is (by omega),tmod_is (by omega)];omega) rfl (.inl rfl) (by omega) W hW)
     have HQ6:=Lib.hid (fun W (hW : Pow W)=>dt_pad2 1 (sn % 60) ((sn : Int).tmod 60) 2 (by rw [tmod_is (by omega)];omega) rfl (.inl rfl) (by omega) W hW)
     have HE2 : Hid (st out = st (Fd.digs (3 + 1) yn)++⟨#[45]⟩++st (Fd.digs (1 + 1) mn)++⟨#[45]⟩++st (Fd.digs (1 + 1) (en + 1))++⟨#[84]⟩++st (Fd.digs (1 + 1) (sn / 3600))++⟨#[58]⟩++st (Fd.digs (1 + 1) (sn / 60 % 60))++⟨#[58]⟩++st (Fd.digs (1 + 1) (sn % 60))++⟨#[90]⟩):=by
      show _ = _
      rw [HE.out]
      simp only [← st_app2]
      rfl
     have z1 : (st (Fd.digs (3 + 1) yn)).size≤4:=by rw [st_size,Fd.digs_len];omega
     have z2 : (st (Fd.digs (1 + 1) mn)).size≤2:=by rw [st_size,Fd.digs_len];omega
     have z3 : (st (Fd.digs (1 + 1) (en + 1))).size≤2:=by rw [st_size,Fd.digs_len];omega
     have z4 : (st (Fd.digs (1 + 1) (sn / 3600))).size≤2:=by rw [st_size,Fd.digs_len];omega
     have z5 : (st (Fd.digs (1 + 1) (sn / 60 % 60))).size≤2:=by rw [st_size,Fd.digs_len];omega
     have z6 : (st (Fd.digs (1 + 1) (sn % 60))).size≤2:=by rw [st_size,Fd.digs_len];omega
     clear HE HB
     generalize st (Fd.digs (3 + 1) yn) = S1 at HQ1 HE2 z1
     generalize st (Fd.digs (1 + 1) mn) = S2 at HQ2 HE2 z2
     generalize st (Fd.digs (1 + 1) (en + 1)) = S3 at HQ3 HE2 z3
     generalize st (Fd.digs (1 + 1) (sn / 3600)) = S4 at HQ4 HE2 z4
     generalize st (Fd.digs (1 + 1) (sn / 60 % 60)) = S5 at HQ5 HE2 z5
     generalize st (Fd.digs (1 + 1) (sn % 60)) = S6 at HQ6 HE2 z6
     have k1 : ¬ 9223372036854775807 < S1.size + 1:=by omega
     have k2 : ¬ 9223372036854775807 < S1.size + 1 + S2.size:=by omega
     have k3 : ¬ 9223372036854775807 < S1.size + 1 + S2.size + 1:=by omega
     have k4 : ¬ 9223372036854775807 < S1.size + 1 + S2.size + 1 + S3.size:=by omega
     have k5 : ¬ 9223372036854775807 < S1.size + 1 + S2.size + 1 + S3.size + 1:=by omega
     have k6 : ¬ 9223372036854775807 < S1.size + 1 + S2.size + 1 + S3.size + 1 + S4.size:=by omega
     have k7 : ¬ 9223372036854775807 < S1.size + 1 + S2.size + 1 + S3.size + 1 + S4.size + 1:=by omega
     have k8 : ¬ 9223372036854775807 < S1.size + 1 + S2.size + 1 + S3.size + 1 + S4.size + 1 + S5.size:=by omega
     have k9 : ¬ 9223372036854775807 < S1.size + 1 + S2.size + 1 + S3.size + 1 + S4.size + 1 + S5.size + 1:=by omega
     have k10 : ¬ 9223372036854775807 < S1.size + 1 + S2.size + 1 + S3.size + 1 + S4.size + 1 + S5.size + 1 + S6.size:=by omega
     have k11 : ¬ 9223372036854775807 < S1.size + 1 + S2.size + 1 + S3.size + 1 + S4.size + 1 + S5.size + 1 + S6.size + 1:=by omega
     clear Q1 Q2 HP hs1 hs2 g1 g2 s1 s2 s3 s4 h0 h1 mr1 mr2 mr3 yr1 yr2 yr3
     clear z1 z2 z3 z4 z5 z6
     go_wp2_with fail
     refine (HQ1.out _ P1.out).mono ?_
     rintro e w2 ⟨rfl,hb2⟩
     have B2:=Lib.hid (B1.out.trans (hb2.mono B1.out.size))
     have P2:=Lib.hid (Pow.below P1.out hb2)
     clear hb2 HQ1
     go_wp2_with fail
     refine (HQ2.out _ P2.out).mono ?_
     rintro e w3 ⟨rfl,hb3⟩
     have B3:=Lib.hid (B2.out.trans (hb3.mono B2.out.size))
     have P3:=Lib.hid (Pow.below P2.out hb3)
     clear hb3 HQ2
     go_wp2_with fail
     refine (HQ3.out _ P3.out).mono ?_
     rintro e w4 ⟨rfl,hb4⟩
     have B4:=Lib.hid (B3.out.trans (hb4.mono B3.out.size))
     have P4:=Lib.hid (Pow.below P3.out hb4)
     clear hb4 HQ3
     go_wp2_with fail
     refine (HQ4.out _ P4.out).mono ?_
     rintro e w5 ⟨rfl,hb5⟩
     have B5:=Lib.hid (B4.out.trans (hb5.mono B4.out.size))
     have P5:=Lib.hid (Pow.below P4.out hb5)
     clear hb5 HQ4
     go_wp2_with fail
     refine (HQ5.out _ P5.out).mono ?_
     rintro e w6 ⟨rfl,hb6⟩
     have B6:=Lib.hid (B5.out.trans (hb6.mono B5.out.size))
     have P6:=Lib.hid (Pow.below P5.out hb6)
     clear hb6 HQ5
     go_wp2_with fail
     refine (HQ6.out _ P6.out).mono ?_
     rintro e w7 ⟨rfl,hb7⟩
     have B7:=Lib.hid (B6.out.trans (hb7.mono B6.out.size))
     have P7:=Lib.hid (Pow.below P6.out hb7)
     clear hb7 HQ6
     go_wp2_with fail
     go_ret2
     refine ⟨?_,B7.out⟩
     rw [HE2.out]
     trace_state
     rfl
end Go.Proofs.YtjonkbdldebkiaaGreatDoor

/- Contracts of the program's safe and Is: is all clean in a tree. Condition: at most 33554432 nodes, attributes and letters. -/
namespace Mk
def badOne (n : Bs) (a : List At) (k : Fo) : Bool:=(decide (n ≠ []) && (!allowedB n || badAts n a || (decide (n = [105,109,103]) && !hasAt a [115,114,99]))) || !safeF k
theorem safe_node (n : Bs) (a : List At) (t : Bs) (k r : Fo) : safeF (.node n a t k r) = (!badOne n a k && safeF r):=rfl
theorem atB_val {a : At} {l : List At} (h : a ∈ l) : a.v.length≤Fo.atB l:=by
 have:=atB_mem h
 omega
/-- is one of some nodes bad? -/
def anyBad : Fo→Bool | .nil=>false | .node n a _ k r=>badOne n a k || anyBad r
theorem safe_any : ∀ f : Fo,safeF f = !anyBad f
 | .nil=>rfl
 | .node n a t k r=>by
  rw [safe_node,safe_any r]
  show _ = !(badOne n a k || anyBad r)
  cases badOne n a k <;> rfl
end Mk
namespace Go.Proofs.YtjonkbdldebkiaaGreatDoor
open Go.RowKit
theorem asks_bad (P : Nat) (n : List UInt8) (l : List Mk.At) (w : World) (hP : P < w.heap.size) (hc : w.cell? ⟨P,0,none⟩ = some (.string (st n))) (hv : ∀ a ∈ l,a.v.length≤33554432) : AsksA 135 #[.pointer (some ⟨P,0,none⟩)] (fun a=>!Mk.mayB n a.n || (Mk.linkB a.n && !Mk.goodLink a.v)) l w:=by
 intro w1 hb a ha
 have hva:=hv a ha
 have c0 : w1.cell? ⟨P,0,none⟩ = some (.string (st n)):=(hb.cell (p:=⟨P,0,none⟩) hP).trans hc
 have hP1 : P < w1.heap.size:=Nat.lt_of_lt_of_le hP hb.size
 have hal:=(Below.refl w1.heap.size w1).alloc (Nat.le_refl _) (.cells #[.string (st a.n),.string (st a.v)] 56)
 have PB:=Lib.hid (Blk.new w1 56 #[.string (st a.n),.string (st a.v)])
 have c1 : (w1.alloc (.cells #[.string (st a.n),.string (st a.v)] 56)).cell? ⟨P,0,none⟩ = some (.string (st n)):=(hal.cell (p:=⟨P,0,none⟩) hP1).trans c0
 have HA:=Lib.hid (cl_attr n a (w1.alloc (.cells #[.string (st a.n),.string (st a.v)] 56)))
 have HL:=Lib.hid (fun W=>cl_link a.n W)
 have HI:=Lib.hid (fun W=>url_Is (st a.v) W (by rw [st_size];omega))
 have hlen : (st a.v).size = a.v.length:=st_size _
 have HAL:=Lib.hid hal
 clear hal hc hv hva c0
 unfold atV at HA
 unfold atV
 go_enter Tryz.func135,Tryz.ntmps135
 go_wp2_with fail
 refine HA.out.mono ?_
 rintro e w2 ⟨rfl,hb2⟩
 have HB2:=Lib.hid (HAL.out.trans (hb2.mono HAL.out.size))
 have PB2:=Lib.hid (Blk.below PB.out hb2 (Blk.lt PB.out))
 clear hb2 HA PB HAL c1
 obtain ⟨bm,hbm⟩ : ∃ b,Mk.mayB n a.n = b:=⟨_,rfl⟩
 have HBM:=Lib.hid hbm
 rw [hbm]
 clear hbm
 cases bm with
 | false =>
  go_wp2_with fail
  go_ret
  exact ⟨ret_bool (by rw [HBM.out];rfl),HB2.out⟩
 | true =>
  have p0 : w2.cell? ⟨w1.heap.size,0,none⟩ = some (.string (st a.n)):=Blk.cell PB2.out 0
  have p1 : w2.cell? ⟨w1.heap.size,1,none⟩ = some (.string (st a.v)):=Blk.cell PB2.out 1
  obtain ⟨bl,hbl⟩ : ∃ b,Mk.linkB a.n = b:=⟨_,rfl⟩
  rw [hbl] at HL
  have HBN:=Lib.hid hbl
  clear hbl
  go_wp2_with fail
  refine (HL.out _).mono ?_
  rintro e w3 ⟨rfl,hw3⟩
  subst w3
  cases bl with
  | false =>
   go_wp2_with fail
   go_ret
   exact ⟨ret_bool (by rw [HBM.out,HBN.out];rfl),HB2.out⟩
  | true =>
   go_wp2_with fail
   refine (HI.out _).mono ?_
   rintro e w4 ⟨rfl,hb4⟩
   have p4 : w4.cell? ⟨w1.heap.size,1,none⟩ = some (.string (st a.v)):=(hb4.cell (p:=⟨w1.heap.size,1,none⟩) (Blk.lt PB2.out)).trans p1
   have HB4:=Lib.hid (HB2.out.trans (hb4.mono HB2.out.size))
   rw [show (st a.v).data.toList = a.v from rfl]
   have hgl : Mk.goodLink a.v = (Mg.isSafe a.v && decide (a.v.length≤3000)):=rfl
   obtain ⟨bs,hbs⟩ : ∃ b,Mg.isSafe a.v = b:=⟨_,rfl⟩
   rw [hbs] at hgl ⊢
   clear hbs HB2 hb4 HI HL PB2 p0 p1
   cases bs with
   | false =>
    have HG:=Lib.hid hgl
    clear hgl
    go_wp2_with fail
    go_ret
    exact ⟨ret_bool (by rw [HBM.out,HBN.out,HG.out];rfl),HB4.out⟩
   | true =>
    by_cases hl : 3000 < a.v.length
    ·have HG : Hid (Mk.goodLink a.v = false):=by show _ = _;rw [hgl];simp;omega
     clear hgl
     go_wp2_with fail
     go_ret
     exact ⟨ret_bool (by rw [HBM.out,HBN.out,HG.out];first | rfl | simp;omega),HB4.out⟩
    ·have HG : Hid (Mk.goodLink a.v = true):=by show _ = _;rw [hgl];simp;omega
     clear hgl
     go_wp2_with fail
     go_ret
     exact ⟨ret_bool (by rw [HBM.out,HBN.out,HG.out];first | rfl | simp;omega),HB4.out⟩
theorem eg_bad (args : Array Value) (w : World) : (callFunc 135 args).run Tryz.prog w = .ok (.enter 135 args) w:=run_callFunc_enter' Tryz.func135 (by kernel_rfl) rfl _ _
end Go.Proofs.YtjonkbdldebkiaaGreatDoor

/- Contracts of the program's safe and Is, behind those of slices.IndexFunc and slices.ContainsFunc over nodes. Condition: at most 33554432 nodes, attributes and letters. -/
namespace Go.Proofs.YtjonkbdldebkiaaGreatDoor
open Go.RowKit
def SafeC (f : Mk.Fo) : Prop:=∀ (v : Value) (K : Nat→Prop) (w : World),FoV w K v f→(∀ b,K b→b < w.heap.size)→Calls Tryz.prog 81 #[v] w fun e w'=>e = .returned (.bool (Mk.safeF f))∧Below w.heap.size w w'
theorem eg_safe1 (args : Array Value) (w : World) : (callFunc 133 args).run Tryz.prog w = .ok (.enter 133 args) w:=run_callFunc_enter' Tryz.func133 (by kernel_rfl) rfl _ _
set_option maxHeartbeats 4000000 in
set_option maxRecDepth 100000 in
theorem cl_safe1 (n t : List UInt8) (a : List Mk.At) (k : Mk.Fo) (hk : SafeC k) (va vk : Value) (K : Nat→Prop) (w : World) (hva : AtsV w K va a) (hvk : FoV w K vk k) (hK : ∀ b,K b→b < w.heap.size) (ha : Mk.Fo.atB a≤33554432) :
  Calls Tryz.prog 133 #[nodeV n va t vk] w fun e w'=>e = .returned (.bool (Mk.badOne n a k))∧Below w.heap.size w w':=by
 have hst : ∀ l : List UInt8,(st l).toList = l:=fun l=>Lib.toList_data _
 obtain ⟨aoa,capa,hva1,_⟩:=id hva
 obtain ⟨aok,capk,xsk,hvk1,_⟩:=id hvk
 subst hva1
 subst hvk1
 have hal:=(Below.refl w.heap.size w).alloc (Nat.le_refl _) (.cells #[.string (st n),.slice aoa a.length capa,.string (st t),.slice aok k.len capk] 53)
 have PB:=Blk.new w 53 #[.string (st n),.slice aoa a.length capa,.string (st t),.slice aok k.len capk]
 have hatl:=Mk.atB_len a
 have HCF:=Lib.hid (sl_ContainsFunc 135 #[.pointer (some ⟨w.heap.size,0,none⟩)] (fun a=>!Mk.mayB n a.n || (Mk.linkB a.n && !Mk.goodLink a.v)) eg_bad a (.slice aoa a.length capa) K (w.alloc (.cells #[.string (st n),.slice aoa a.length capa,.string (st t),.slice aok k.len capk] 53)) (hva.below hK hal) (fun b q=>Nat.lt_of_lt_of_le (hK b q) hal.size) (by omega) (asks_bad w.heap.size n a _ PB.lt (PB.cell 0) (fun x hx=>by have:=Mk.atB_val hx;omega)))
 have HBA : Hid (a.any (fun a=>!Mk.mayB n a.n || (Mk.linkB a.n && !Mk.goodLink a.v)) = Mk.badAts n a):=rfl
 have HBO : Hid (Mk.badOne n a k = ((decide (n ≠ []) && (!Mk.allowedB n || Mk.badAts n a || (decide (n = [105,109,103]) && !Mk.hasAt a [115,114,99]))) || !Mk.safeF k)):=rfl
 have HPB:=Lib.hid PB
 have HAL:=Lib.hid hal
 have HVA:=Lib.hid hva
 have HVK:=Lib.hid hvk
 have HK:=Lib.hid hK
 have HSK:=Lib.hid hk
 have hne : (n = []∧n.isEmpty = true) ∨ (n ≠ []∧n.isEmpty = false):=by
  cases n with
  | nil=>exact .inl ⟨rfl,rfl⟩
  | cons _ _=>exact .inr ⟨by simp,rfl⟩
 have him : (n = [105,109,103]∧(n == [105,109,103]) = true) ∨ (n ≠ [105,109,103]∧(n == [105,109,103]) = false):=by
  by_cases h : n = [105,109,103]
  ·exact .inl ⟨h,beq_iff_eq.2 h⟩
  ·exact .inr ⟨h,beq_eq_false_iff_ne.2 h⟩
 have HNE:=Lib.hid hne
 have HIM:=Lib.hid him
 clear hva hvk hK hk hal PB hne him
 unfold nodeV
 go_enter Tryz.func133,Tryz.ntmps133
 go_wp2_with fail
 refine HCF.out.mono ?_
 rintro e w2 ⟨rfl,hb2⟩
 rw [HBA.out]
 have HB2:=Lib.hid (HAL.out.trans (hb2.mono HAL.out.size))
 have hP2:=Blk.below HPB.out hb2 (Blk.lt HPB.out)
 have HP2:=Lib.hid hP2
 have p0 : w2.cell? ⟨w.heap.size,0,none⟩ = some (.string (st n)):=Blk.cell hP2 0
 have p3 : w2.cell? ⟨w.heap.size,3,none⟩ = some (.slice aok k.len capk):=Blk.cell hP2 3
 clear hb2 HCF HPB hP2
  -- the kids
 have HTAIL : Hid (∀ W,Below w.heap.size w W→Calls Tryz.prog 81 #[.slice aok k.len capk] W fun e w'=>e = .returned (.bool (Mk.safeF k))∧Below w.heap.size w w'):=fun W hW=>(HSK.out (.slice aok k.len capk) K W (HVK.out.below HK.out hW) (fun b q=>Nat.lt_of_lt_of_le (HK.out b q) hW.size)).mono (fun e w' ⟨h1,h2⟩=>⟨h1,hW.trans (h2.mono hW.size)⟩)
 obtain ⟨bb,hbb⟩ : ∃ b,Mk.badAts n a = b:=⟨_,rfl⟩
 obtain ⟨bk,hbk⟩ : ∃ b,Mk.safeF k = b:=⟨_,rfl⟩
 rw [hbk] at HTAIL
 rw [hbb,hbk] at HBO
 rw [hbb]
 clear hbb hbk
 rcases HNE.out with ⟨hn,he⟩ | ⟨hn,he⟩
 ·have HQ : Hid (Mk.badOne n a k = !bk):=by show _ = _;rw [HBO.out,hn];rfl
  clear hn HBO
  go_wp2_with fail
  refine (HTAIL.out _ HB2.out).mono ?_
  rintro e w3 ⟨rfl,hb3⟩
  have HB3:=Lib.hid hb3
  clear hb3 HTAIL
  go_wp2_with fail
  go_ret
  exact ⟨ret_bool (by rw [HQ.out]),HB3.out⟩
 ·have HQ : Hid (Mk.badOne n a k = ((!Mk.allowedB n || bb || (decide (n = [105,109,103]) && !Mk.hasAt a [115,114,99])) || !bk)):=by show _ = _;rw [HBO.out,show decide (n ≠ []) = true from decide_eq_true hn];rfl
  have HALW:=Lib.hid (cl_allowed n w2)
  obtain ⟨bw,hbw⟩ : ∃ b,Mk.allowedB n = b:=⟨_,rfl⟩
  rw [hbw] at HALW HQ
  clear hn hbw HBO
  go_wp2_with fail
  refine HALW.out.mono ?_
  rintro e w3 ⟨rfl,hb3⟩
  have HB3:=Lib.hid (HB2.out.trans (hb3.mono HB2.out.size))
  have hP3:=Blk.below HP2.out hb3 (Blk.lt HP2.out)
  have q0 : w3.cell? ⟨w.heap.size,0,none⟩ = some (.string (st n)):=Blk.cell hP3 0
  have q1 : w3.cell? ⟨w.heap.size,1,none⟩ = some (.slice aoa a.length capa):=Blk.cell hP3 1
  have q3 : w3.cell? ⟨w.heap.size,3,none⟩ = some (.slice aok k.len capk):=Blk.cell hP3 3
  have HP3:=Lib.hid hP3
  clear hb3 HALW hP3 HB2 HP2 p0 p3
  cases bw with
  | false =>
   have HQ2 : Hid (Mk.badOne n a k = true):=by show _ = _;rw [HQ.out];rfl
   clear HQ HTAIL
   go_wp2_with fail
   go_ret
   exact ⟨ret_bool (by rw [HQ2.out]),HB3.out⟩
  | true =>
   cases bb with
   | true =>
    have HQ2 : Hid (Mk.badOne n a k = true):=by show _ = _;rw [HQ.out];rfl
    clear HQ HTAIL
    go_wp2_with fail
    go_ret
    exact ⟨ret_bool (by rw [HQ2.out]),HB3.out⟩
   | false =>
    rcases HIM.out with ⟨hi,hie⟩ | ⟨hi,hie⟩
    ·have HHA:=Lib.hid (cl_has a [115,114,99] (.slice aoa a.length capa) K w3 (HVA.out.below HK.out HB3.out) (fun b q=>Nat.lt_of_lt_of_le (HK.out b q) HB3.out.size) (by omega))
     obtain ⟨bh,hbh⟩ : ∃ b,Mk.hasAt a [115,114,99] = b:=⟨_,rfl⟩
     rw [hbh] at HHA HQ
     have HQ2 : Hid (Mk.badOne n a k = (!bh || !bk)):=by show _ = _;rw [HQ.out,show decide (n = [105,109,103]) = true from decide_eq_true hi];cases bh <;> rfl
     clear HQ hi hbh
     go_wp2_with fail
     refine HHA.out.mono ?_
     rintro e w4 ⟨rfl,hb4⟩
     have HB4:=Lib.hid (HB3.out.trans (hb4.mono HB3.out.size))
     have r3 : w4.cell? ⟨w.heap.size,3,none⟩ = some (.slice aok k.len capk):=(hb4.cell (p:=⟨w.heap.size,3,none⟩) (Blk.lt HP3.out)).trans q3
     clear hb4 HHA HB3 HP3 q0 q1 q3
     cases bh with
     | false =>
      have HQ3 : Hid (Mk.badOne n a k = true):=by show _ = _;rw [HQ2.out];rfl
      clear HQ2 HTAIL
      go_wp2_with fail
      go_ret
      exact ⟨ret_bool (by rw [HQ3.out]),HB4.out⟩
     | true =>
      have HQ3 : Hid (Mk.badOne n a k = !bk):=by show _ = _;rw [HQ2.out];rfl
      clear HQ2
      go_wp2_with fail
      refine (HTAIL.out _ HB4.out).mono ?_
      rintro e w5 ⟨rfl,hb5⟩
      have HB5:=Lib.hid hb5
      clear hb5 HTAIL
      go_wp2_with fail
      go_ret
      exact ⟨ret_bool (by rw [HQ3.out]),HB5.out⟩
    ·have HQ3 : Hid (Mk.badOne n a k = !bk):=by show _ = _;rw [HQ.out,show decide (n = [105,109,103]) = false from decide_eq_false hi];rfl
     clear HQ hi
     go_wp2_with fail
     refine (HTAIL.out _ HB3.out).mono ?_
     rintro e w5 ⟨rfl,hb5⟩
     have HB5:=Lib.hid hb5
     clear hb5 HTAIL q0 q1 q3 HB3 HP3
     go_wp2_with fail
     go_ret
     exact ⟨ret_bool (by rw [HQ3.out]),HB5.out⟩
set_option maxHeartbeats 2000000 in
theorem sn_IndexFunc (f : Mk.Fo) (hsub : ∀ k n a t kk r,f.drop k = .node n a t kk r→SafeC kk) (hb : f.bulk≤33554432) (v : Value) (K : Nat→Prop) (w : World) (hv : FoV w K v f) (hK : ∀ b,K b→b < w.heap.size) :
  Calls Tryz.prog 116 #[v,.func (.func 133) #[] #[]] w fun e w'=>∃ i : Int,e = .returned (.int .i64 i)∧(decide (0≤i) = Mk.anyBad f)∧Below w.heap.size w w':=by
 obtain ⟨g,o,cap,hv1,hlen,hat⟩:=hv.at_
 have HAT:=Lib.hid hat
 have HSB:=Lib.hid hsub
 have eg:=eg_safe1
 have hgl:=Mk.Fo.len_bulk f
 clear hat hsub hv
 rcases hv1 with ⟨hv1,hKg⟩ | ⟨ao,hv1,hnil⟩
 ·subst hv1
  have hgm:=hK g hKg
  go_enter Tryz.func116,Tryz.ntmps116
  go_wp2_with fail
  go_loopw [8] (fun i wr=>∃ k : Nat,k≤f.len∧i = .int .i64 k∧Hid (Mk.anyBad f = Mk.anyBad (f.drop k))∧Hid (Below w.heap.size w wr)) (fun i _=>f.len - (intOf i).toNat)
  case atStart=>exact ⟨0,Nat.zero_le _,rfl,by show _ = _;rw [Mk.Fo.drop_zero],Below.refl _ _⟩
  case round =>
   obtain ⟨k,hk,rfl,HA,BL⟩:=hrel
   by_cases hlt : k < f.len
   ·obtain ⟨n,a,t,kk,r,hd,hd1⟩:=Mk.Fo.drop_lt f k hlt
    obtain ⟨va,vk,c0,c1,c2,c3,hva,hvk⟩:=HAT.out k n a t kk r hd
    rw [← BL.out.cell (p:=⟨g,_,none⟩) hgm] at c0 c1 c2 c3
    obtain ⟨aoa,capa,hva1,_⟩:=id hva
    obtain ⟨aok,capk,xsk,hvk1,_⟩:=id hvk
    subst hva1
    subst hvk1
    have hdb : (f.drop k).bulk = 1 + n.length + t.length + Mk.Fo.atB a + kk.bulk + r.bulk:=by rw [hd];rfl
    have hdb2:=Mk.Fo.drop_bulk f k
    have hcall:=cl_safe1 n t a kk (HSB.out k n a t kk r hd) (.slice aoa a.length capa) (.slice aok kk.len capk) K wr (hva.below hK BL.out) (hvk.below hK BL.out) (fun b q=>Nat.lt_of_lt_of_le (hK b q) BL.out.size) (by omega)
    have HD : Hid (Mk.anyBad f = (Mk.badOne n a kk || Mk.anyBad (f.drop (k + 1)))):=by show _ = _;rw [HA.out,hd,hd1];rfl
    generalize Mk.badOne n a kk = bb at hcall HD
    unfold nodeV at hcall
    have HCALL:=Lib.hid hcall
    clear hcall HAT HSB hva hvk hd hd1 hdb hdb2
    cases bb with
    | true =>
     go_wp2_with fail
     refine HCALL.out.mono ?_
     rintro e w1 ⟨rfl,hb1⟩
     have BL1:=BL.out.trans (hb1.mono BL.out.size)
     go_wp2_with fail
     go_ret
     exact ⟨k,rfl,by rw [HD.out,Bool.true_or];simp,BL1⟩
    | false =>
     go_wp2_with fail
     refine HCALL.out.mono ?_
     rintro e w1 ⟨rfl,hb1⟩
     have BL1:=BL.out.trans (hb1.mono BL.out.size)
     go_wp2_with fail
     go_roundw
     case rel=>exact ⟨k + 1,by omega,by go_num,by show _ = _;rw [HD.out,Bool.false_or],BL1⟩
     case measure=>simp [intOf];omega
   ·have hkl : k = f.len:=by omega
    have HN : Hid (Mk.anyBad f = false):=by show _ = _;rw [HA.out,hkl,Mk.Fo.drop_len];rfl
    clear HA HAT HSB
    go_wp2_with fail
    go_ret
    exact ⟨-1,rfl,by rw [HN.out];rfl,BL.out⟩
 ·subst hnil
  subst hv1
  clear HAT HSB
  go_enter Tryz.func116,Tryz.ntmps116
  go_wp2_with fail
  go_loopw [8] (fun i wr=>i = .int .i64 0∧wr = w) (fun _ _=>0)
  case atStart=>exact ⟨rfl,rfl⟩
  case round =>
   obtain ⟨rfl,rfl⟩:=hrel
   go_wp2_with fail
   go_ret
   exact ⟨-1,rfl,rfl,Below.refl _ _⟩
set_option maxHeartbeats 2000000 in
theorem cl_safe (N : Nat) : ∀ f : Mk.Fo,f.bulk < N→f.bulk≤33554432→SafeC f:=by
 induction N with
 | zero=>intro f hN;omega
 | succ N ih =>
  intro f hN hb v K w hv hK
  have HI:=Lib.hid (sn_IndexFunc f (fun k n a t kk r hd=>ih kk (by have h1:=Mk.Fo.drop_bulk f k;rw [hd] at h1;have e : Mk.Fo.bulk (.node n a t kk r) = 1 + n.length + t.length + Mk.Fo.atB a + Mk.Fo.bulk kk + Mk.Fo.bulk r:=rfl;omega) (by have h1:=Mk.Fo.drop_bulk f k;rw [hd] at h1;have e : Mk.Fo.bulk (.node n a t kk r) = 1 + n.length + t.length + Mk.Fo.atB a + Mk.Fo.bulk kk + Mk.Fo.bulk r:=rfl;omega)) hb v K w hv hK)
  have HCN : Hid (Calls Tryz.prog 132 #[v,.func (.func 133) #[] #[]] w fun e w'=>e = .returned (.bool (Mk.anyBad f))∧Below w.heap.size w w'):=by
   show Calls _ _ _ _ _
   go_enter Tryz.func132,Tryz.ntmps132
   go_wp2_with fail
   refine HI.out.mono ?_
   rintro e w1 ⟨i,rfl,hi,hb⟩
   have HB:=Lib.hid hb
   have H2:=Lib.hid hi
   clear hb hi
   go_wp2_with fail
   go_ret
   exact ⟨ret_bool H2.out,HB.out⟩
  have HSA:=Lib.hid (Mk.safe_any f)
  clear hv hK ih HI
  go_enter Tryz.func81,Tryz.ntmps81
  go_wp2_with fail
  refine HCN.out.mono ?_
  rintro e w1 ⟨rfl,hb1⟩
  have HB:=Lib.hid hb1
  clear hb1 HCN
  go_wp2_with fail
  go_ret
  exact ⟨ret_bool (by rw [HSA.out]),HB.out⟩
set_option maxHeartbeats 1000000 in
theorem cl_Is (f : Mk.Fo) (v : Value) (K : Nat→Prop) (w : World) (hf : f.bulk≤33554432) (hv : FoV w K v f) (hK : ∀ b,K b→b < w.heap.size) :
  Calls Tryz.prog 34 #[v] w fun e w'=>e = .returned (.tuple #[.bool (decide (Mk.checkT f = 0) && Mk.safeF f),.int .i64 (Mk.checkT f)])∧Below w.heap.size w w':=by
 have HC:=Lib.hid (tr_Check f v K w hf hv hK)
 have HV:=Lib.hid hv
 have HK:=Lib.hid hK
 obtain ⟨ao,cap,xs,hv1,_⟩:=hv
 subst hv1
 generalize Mk.checkT f = c at HC
 clear hK
 go_enter Tryz.func34,Tryz.ntmps34
 go_wp2_with fail
 refine HC.out.mono ?_
 rintro e w1 ⟨rfl,hb1⟩
 have L1:=Lib.hid hb1
 clear HC hb1
 by_cases hc : c = 0
 ·subst hc
  have HS:=Lib.hid (cl_safe (f.bulk + 1) f (Nat.lt_succ_self _) hf (.slice ao f.len cap) K w1 (HV.out.below HK.out L1.out) (fun b q=>Nat.lt_of_lt_of_le (HK.out b q) L1.out.size))
  go_wp2_with fail
  refine HS.out.mono ?_
  rintro e w2 ⟨rfl,hb2⟩
  have L2:=Lib.hid (L1.out.trans (hb2.mono L1.out.size))
  clear HS hb2
  go_wp2_with fail
  go_ret2
  exact ⟨by simp,L2.out⟩
 ·have hcb : (c == 0) = false:=beq_eq_false_iff_ne.2 hc
  have HC2:=Lib.hid hc
  clear hc
  go_wp2_with fail
  go_ret2
  exact ⟨by have:=HC2.out;simp [this],L1.out⟩
end Go.Proofs.YtjonkbdldebkiaaGreatDoor
