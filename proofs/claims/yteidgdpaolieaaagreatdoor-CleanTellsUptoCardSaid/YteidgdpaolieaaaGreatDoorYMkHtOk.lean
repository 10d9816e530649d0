/- Contracts of the program's Html at any texts: what is clean, or that they are too long. -/
import Derived.Test.YteidgdpaolieaaaGreatDoorYRfJ
import Derived.Test.YteidgdpaolieaaaGreatDoorYMkRep6
import Derived.Test.YteidgdpaolieaaaGreatDoorYMkHtml
import Derived.Test.YteidgdpaolieaaaGreatDoorYMkSame
import Derived.Test.YteidgdpaolieaaaGreatDoorYUrlI
import Derived.Test.YteidgdpaolieaaaGreatDoorYRfL
import Derived.Test.YteidgdpaolieaaaGreatDoorYRfH
import Derived.Test.YteidgdpaolieaaaGreatDoorYMkTok8
import Derived.Test.YteidgdpaolieaaaGreatDoorYRfK
import Derived.Deep.RegionHeld3
set_option linter.unusedVariables false
set_option linter.unusedSimpArgs false
namespace Go.Proofs.YteidgdpaolieaaaGreatDoor
open Go.RowKit
theorem tells_html (base s : List UInt8) (hs : s.length≤3000) : ∀ t ∈ Mk.flat (Mk.clean base (Mk.build (Mk.toks s))),TokTells t:=by
 intro t ht
 have h1:=Mk.toks_bulk s
 have h2:=Mk.build_bulk (Mk.toks s)
 have h3:=Mk.clean_bulk base (Mk.build (Mk.toks s))
 obtain ⟨h4,h5⟩:=Mk.flat_mem _ t ht
 exact ⟨fun _=>tells_any _ (by omega),fun a ha=>tells_any _ (by have:=h5 a ha;omega)⟩
theorem cl_Html_ok (base s : List UInt8) (w : World) (hg : Gl w) (hb : base.length≤3000) (hs : s.length≤3000) :
  Calls Tryz.prog 9 #[.string (st base),.string (st s)] w fun e w'=>e = .returned (.tuple #[.string (st (Mk.html base s)),.int .i64 0])∧Below w.heap.size w w' :=
 cl_Html base s w hg hb (Mk.fits base s hs) (tells_html base s hs)
set_option maxHeartbeats 4000000 in
set_option maxRecDepth 100000 in
theorem cl_Html_long (base s : List UInt8) (w : World) (h : 3000 < base.length ∨ 3000 < s.length) :
  Calls Tryz.prog 9 #[.string (st base),.string (st s)] w fun e w'=>e = .returned (.tuple #[.string (st []),.int .i64 2])∧w' = w:=by
 by_cases h1 : 3000 < base.length
 ·have h2 : 3000 < (st base).size:=by rw [st_size];omega
  clear h h1
  go_enter Tryz.func9,Tryz.ntmps9
  go_wp2_with fail
  go_ret2
  exact ⟨rfl,rfl⟩
 ·have h2 : ¬ 3000 < (st base).size:=by rw [st_size];omega
  have h3 : 3000 < (st s).size:=by rw [st_size];omega
  clear h h1
  go_enter Tryz.func9,Tryz.ntmps9
  go_wp2_with fail
  go_ret2
  exact ⟨rfl,rfl⟩
end Go.Proofs.YteidgdpaolieaaaGreatDoor

/- Contracts of the program's token.Check and Build at tokens that are right, Read and Flat. -/
namespace Mk
end Mk
namespace Go.Proofs.YteidgdpaolieaaaGreatDoor
open Go.RowKit
end Go.Proofs.YteidgdpaolieaaaGreatDoor

/- The laws' small functions over links: tooLong; what must be in any case (urlBegun). -/
namespace Go.Proofs.YteidgdpaolieaaaGreatDoor
open Go.RowKit

set_option maxHeartbeats 400000 in
theorem law_tooLong (s : ByteArray) (w : World) :
  Calls Tryz.prog 11 #[.string s] w fun e w'=>e = .returned (.int .i64 (if 3000 < s.size then 2 else 0))∧w = w':=by
 by_cases h : 3000 < s.size
 ·rw [if_pos h]
  go_enter Tryz.func11,Tryz.ntmps11
  go_wp2
  go_ret
  exact ⟨rfl,rfl⟩
 ·rw [if_neg h]
  go_enter Tryz.func11,Tryz.ntmps11
  go_wp2
  go_ret
  exact ⟨rfl,rfl⟩

def u0 : Mg.U:=⟨[104,116,116,112],[97],[47,98,47,99,47,100,59,112],[113],[102],true,true,true,true⟩
abbrev t0 : List UInt8:=[104,116,116,112,58,47,47,97,47,98,47,99,47,100,59,112,63,113,35,102]
end Go.Proofs.YteidgdpaolieaaaGreatDoor

/- The law CleanGood over the walk, where the reference's reader of a text is what the program's is. -/
namespace Mk
end Mk
namespace Go.Proofs.YteidgdpaolieaaaGreatDoor
open Go.RowKit
/-- the reference's reader of a text, as the law wants it. -/
def TreeOfC : Prop:=∀ (s : List UInt8) (w : World),s.length≤3000→Calls Tryz.prog 25 #[.string (st s)] w fun e w'=>∃ v,e = .returned v∧FoV w' (fun b=>w.heap.size≤b∧b < w'.heap.size) v (Mk.build (Mk.toks s))∧Below w.heap.size w w'
end Go.Proofs.YteidgdpaolieaaaGreatDoor

/- Contract of the reference's TreeOf: the reference's reader of a text is what the program's is. Condition: at most 3000 letters. -/
namespace Go.Proofs.YteidgdpaolieaaaGreatDoor
open Go.RowKit
set_option maxHeartbeats 4000000 in
set_option maxRecDepth 100000 in
theorem rf_TreeOf : TreeOfC:=by
 intro s w hs
 have HT:=Lib.hid (rf_TokensOf s w (by omega))
 have htb:=Mk.toks_bulk s
 have hok:=Mk.toks_ok s
 have hbr:=Mk.boR_build (Mk.toks s) hok
 obtain ⟨L,hL⟩ : ∃ L,Mk.toks s = L:=⟨_,rfl⟩
 rw [hL] at HT htb hok hbr ⊢
 have HBR:=Lib.hid hbr
 have HBC:=Lib.hid (rf_BuildOf L hok (by omega) (L.length + 1) 0 (Nat.zero_le _) (by omega))
 clear hok hbr hL htb hs
 go_enter Tryz.func25,Tryz.ntmps25
 go_wp2_with fail
 refine HT.out.mono ?_
 rintro e w1 ⟨v1,rfl,hv1,hb1⟩
 have HB:=Lib.hid (HBC.out v1 (.slice none 0 0) [] (fun b=>b < w1.heap.size) w1 (hv1.frame (fun b q=>⟨q.2,rfl⟩)) (StrsV.nil _ _) (fun b q=>q) (Nat.zero_le _))
 have B1:=Lib.hid hb1
 obtain ⟨ao1,cap1,xs1,hvs1,_⟩:=hv1
 subst hvs1
 clear hb1 HT HBC
 go_wp2_with fail
 refine HB.out.mono ?_
 rintro e w2 ⟨v2,j,rfl,hv2,_,_,_,hb2⟩
 rw [List.drop_zero,HBR.out] at hv2
 have B2:=Lib.hid (B1.out.trans (hb2.mono B1.out.size))
 have HF : Hid (FoV w2 (fun b=>w.heap.size≤b∧b < w2.heap.size) v2 (Mk.build L)):=hv2.frame (fun b q=>⟨⟨Nat.le_trans B1.out.size q.1,q.2⟩,rfl⟩)
 obtain ⟨ao2,cap2,xs2,hvs2,_⟩:=hv2
 subst hvs2
 clear hb2 HB B1
 go_wp2_with fail
 go_ret
 exact ⟨_,rfl,HF.out,B2.out⟩
end Go.Proofs.YteidgdpaolieaaaGreatDoor

/- Contract of the reference's count: how many nodes a tree has, and how deep they stand. Condition: at most 33554432 nodes, attributes and letters. -/
namespace Go.Proofs.YteidgdpaolieaaaGreatDoor
open Go.RowKit
/-- how deep nodes stand, told from where they are counted. -/
def mo (d : Int) (x : Nat) : Int:=if x = 0 then 0 else (x : Int) + d - 1
theorem mo_pos (d : Int) (x : Nat) (h : x ≠ 0) : mo d x = (x : Int) + d - 1:=if_neg h
def CountC (f : Mk.Fo) (m : Nat) (d : Int) : Prop:=∀ (v : Value) (K : Nat→Prop) (w : World),FoV w K v f→Calls Tryz.prog 29 #[v,.int .i64 d] w fun e w'=>e = .returned (.tuple #[.int .i64 (Mk.sizeF m f).1,.int .i64 (mo d (Mk.sizeF m f).2)])∧w = w'
set_option maxHeartbeats 8000000 in
set_option maxRecDepth 100000 in
theorem rf_count (N : Nat) : ∀ (f : Mk.Fo) (m : Nat) (d : Int),f.bulk < N→f.bulk≤33554432→d + m = 9→m≤8→CountC f m d:=by
 induction N with
 | zero=>intro f m d hN;omega
 | succ N ih =>
  intro f m d hN hf hdm hm v K w hv
  have hst : ∀ l : List UInt8,(st l).toList = l:=fun l=>Lib.toList_data _
  obtain ⟨ao,cap,hv1,hvm,hvc⟩:=hv.get
  subst hv1
  have HV:=Lib.hid hvc
  have hfl:=Mk.Fo.len_bulk f
  have hsb:=Mk.sizeF_bulk m f
  have hd1 : 1≤d:=by omega
  have hd9 : d≤9:=by omega
  have HDM:=Lib.hid hdm
  clear hvc hv hdm
  go_enter Tryz.func29,Tryz.ntmps29
  go_wp2_with fail
  go_loop [6,7,8] (fun a b i=>∃ k many deep : Nat,k≤f.len∧i = .int .i64 k∧a = .int .i64 many∧b = .int .i64 (mo d deep)∧many + (Mk.sizeF m (f.drop k)).1 = (Mk.sizeF m f).1 + (f.drop k).len∧max deep (Mk.sizeF m (f.drop k)).2 = (Mk.sizeF m f).2) (fun _ _ i=>f.len - (intOf i).toNat)
  case atStart=>exact ⟨0,f.len,0,Nat.zero_le _,rfl,rfl,rfl,by rw [Mk.Fo.drop_zero,Nat.add_comm],by rw [Mk.Fo.drop_zero,Nat.zero_max]⟩
  case round =>
   obtain ⟨k,many,deep,hk,rfl,rfl,rfl,h1,h2⟩:=hrel
   by_cases hlt : k < f.len
   ·obtain ⟨n,a,t,kk,r,hd,hdk⟩:=Mk.Fo.drop_lt f k hlt
    obtain ⟨g,o,aoa,capa,aok,capk,rfl,hKg,c0,c1,c2,c3,hva,hvk⟩:=HV.out k n a t kk r hd
    have hdb:=Mk.Fo.drop_bulk f k
    rw [hd] at hdb h1 h2
    have hkb : kk.bulk + r.bulk + 1≤f.bulk:=by
     have e : (Mk.Fo.node n a t kk r).bulk = 1 + n.length + t.length + Mk.Fo.atB a + kk.bulk + r.bulk:=rfl
     omega
    have hrl:=Mk.Fo.len_bulk r
    have hlr : (Mk.Fo.node n a t kk r).len = r.len + 1:=rfl
    have hsl:=Mk.sizeF_len m (.node n a t kk r)
    have hsl2:=Mk.sizeF_len m r
    have hki : (k : Int) < f.len:=by omega
    have hk0 : (0 : Int)≤k:=by omega
    obtain ⟨z,hz⟩ : ∃ z,mo d deep = z:=⟨_,rfl⟩
    rw [hz]
    have HZ:=Lib.hid hz
    by_cases hn : n = []
    ·subst hn
     rw [Mk.sizeF_text] at h1 h2
     simp only at h1 h2
     have H1 : Hid (many + (Mk.sizeF m (f.drop (k + 1))).1 = (Mk.sizeF m f).1 + (f.drop (k + 1)).len):=by show _ = _;rw [hdk];omega
     have H2 : Hid (max deep (Mk.sizeF m (f.drop (k + 1))).2 = (Mk.sizeF m f).2):=by show _ = _;rw [hdk];exact h2
     have HZ2 : Hid (Value.int .i64 z = .int .i64 (mo d deep)):=by show _ = _;rw [HZ.out]
     clear HV hd hdk hva hvk hz h1 h2 HDM hsb ih
     as_aux_lemma =>
     go_wp2_with fail
     go_round
     case rel=>exact ⟨k + 1,many,deep,by omega,by go_num,rfl,HZ2.out,H1.out,H2.out⟩
     case measure=>simp [intOf];omega
    ·have he : n.isEmpty = false:=by
      cases n with
      | nil=>exact absurd rfl hn
      | cons _ _=>rfl
     have hdeep : deep≤m + 1:=by have:=Nat.le_max_left deep (Mk.sizeF m (.node n a t kk r)).2;omega
     obtain ⟨z1,hz1⟩ : ∃ z1,mo d (max deep 1) = z1:=⟨_,rfl⟩
     have hz2 : z1 = ((max deep 1 : Nat) : Int) + d - 1:=by rw [← hz1,mo_pos _ _ (by omega)]
     have HZ1:=Lib.hid hz1
     have HZ2:=Lib.hid hz2
     have HN:=Lib.hid hn
     have hmany : many≤33554432:=by omega
     clear hz1 hz2 hn
     have HZ3 : Hid (z = (if deep = 0 then 0 else (deep : Int) + d - 1)):=hz.symm
     clear hz
     go_upto_if 27 with fail
     go_cut [7] (fun b wx=>b = .int .i64 z1∧w = wx)
     case first =>
      as_aux_lemma =>
      have hz3:=HZ3.out
      clear HZ3
      by_cases h0 : deep = 0
      ·rw [if_pos h0] at hz3
       subst hz3
       have e : Hid (d = z1):=by show _ = _;rw [HZ2.out];omega
       have hd0 : 0 < d:=by omega
       clear h0 h1 h2 HV hd hdk hva hvk ih hlr hsb
       go_wp2_with fail
       go_meet
       case rel=>exact ⟨by rw [e.out],rfl⟩
      ·rw [if_neg h0] at hz3
       have e : Hid (z = z1):=by show _ = _;rw [HZ2.out];omega
       have hd0 : ¬ z < d:=by omega
       clear h0 h1 h2 HV hd hdk hva hvk ih hlr hsb hz3
       go_wp2_with fail
       go_meet
       case rel=>exact ⟨by rw [e.out],rfl⟩
     case rest =>
     as_aux_lemma =>
     obtain ⟨rfl,hwx⟩:=hcut
     subst hwx
     clear HZ3 HZ
     by_cases hm0 : m = 0
     ·subst hm0
      have hdd : 8 < d:=by have:=HDM.out;omega
      rw [Mk.sizeF_zero HN.out] at h1 h2
      simp only at h1 h2
      have H1 : Hid (many + (Mk.sizeF 0 (f.drop (k + 1))).1 = (Mk.sizeF 0 f).1 + (f.drop (k + 1)).len):=by show _ = _;rw [hdk];omega
      have H2 : Hid (max (max deep 1) (Mk.sizeF 0 (f.drop (k + 1))).2 = (Mk.sizeF 0 f).2):=by show _ = _;rw [hdk];omega
      clear HV hd hdk hva hvk h1 h2 ih hsb hlr HDM
      go_wp2_with fail
      go_round
      case rel=>exact ⟨k + 1,many,max deep 1,by omega,by go_num,rfl,by rw [HZ1.out],H1.out,H2.out⟩
      case measure=>simp [intOf];omega
     ·obtain ⟨m',hm1⟩ : ∃ m',m = m' + 1:=⟨m - 1,by omega⟩
      have hss:=Mk.sizeF_succ HN.out m' a t kk r
      rw [← hm1] at hss
      rw [hss] at h1 h2
      have hdd : ¬ 8 < d:=by have:=HDM.out;omega
      have hrec:=ih kk m' (d + 1) (by omega) (by omega) (by have:=HDM.out;omega) (by omega) (.slice aok kk.len capk) K w hvk
      have hsk:=Mk.sizeF_bulk m' kk
      obtain ⟨y,hy⟩ : ∃ y,Mk.sizeF m' kk = y:=⟨_,rfl⟩
      rw [hy] at hrec h1 h2 hsk
      obtain ⟨y1,y2⟩:=y
      simp only at h1 h2 hrec hsk
      obtain ⟨rr,hrr⟩ : ∃ rr,mo (d + 1) y2 = rr:=⟨_,rfl⟩
      rw [hrr] at hrec
      have HREC:=Lib.hid hrec
      have hy1 : many + y1≤33554432:=by omega
      have H1 : Hid (many + y1 + (Mk.sizeF m (f.drop (k + 1))).1 = (Mk.sizeF m f).1 + (f.drop (k + 1)).len):=by show _ = _;rw [hdk];omega
      have H2 : Hid (max (max (max deep 1) (y2 + 1)) (Mk.sizeF m (f.drop (k + 1))).2 = (Mk.sizeF m f).2):=by show _ = _;rw [hdk];omega
      have hz9:=HZ2.out
      have HR3 : Hid (rr = (if y2 = 0 then 0 else (y2 : Int) + (d + 1) - 1)):=hrr.symm
      clear HV hd hdk hva hvk h1 h2 ih hsb hlr HDM hm1 hss hy hrr hrec
      by_cases hc : z1 < rr
      ·have e : Hid (rr = mo d (max (max deep 1) (y2 + 1))):=by
        show _ = _
        rw [mo_pos _ _ (by omega)]
        have h3:=HR3.out
        by_cases h0 : y2 = 0
        ·rw [if_pos h0] at h3;omega
        ·rw [if_neg h0] at h3;omega
       clear hz9
       go_wp2_with fail
       refine HREC.out.mono ?_
       rintro e w2 ⟨rfl,hw2⟩
       subst hw2
       clear HREC
       go_wp2_with fail
       go_round
       case rel=>exact ⟨k + 1,many + y1,_,by omega,by go_num,by go_num,by rw [e.out],H1.out,H2.out⟩
       case measure=>simp [intOf];omega
      ·have e : Hid (z1 = mo d (max (max deep 1) (y2 + 1))):=by
        show _ = _
        rw [mo_pos _ _ (by omega)]
        have h3:=HR3.out
        by_cases h0 : y2 = 0
        ·rw [if_pos h0] at h3;omega
        ·rw [if_neg h0] at h3;omega
       clear hz9
       go_wp2_with fail
       refine HREC.out.mono ?_
       rintro e w2 ⟨rfl,hw2⟩
       subst hw2
       clear HREC
       go_wp2_with fail
       go_round
       case rel=>exact ⟨k + 1,many + y1,_,by omega,by go_num,by go_num,by rw [e.out],H1.out,H2.out⟩
       case measure=>simp [intOf];omega
   ·have hke : k = f.len:=by omega
    rw [hke,Mk.Fo.drop_len] at h1 h2
    have h1' : many = (Mk.sizeF m f).1:=by simpa [Mk.sizeF,Mk.Fo.len] using h1
    have h2' : deep = (Mk.sizeF m f).2:=by simpa [Mk.sizeF] using h2
    have H1:=Lib.hid h1'
    have H2:=Lib.hid h2'
    obtain ⟨z,hz⟩ : ∃ z,mo d deep = z:=⟨_,rfl⟩
    rw [hz]
    have HZ:=Lib.hid hz
    have hki : ¬ (k : Int) < f.len:=by omega
    clear h1 h2 h1' h2' HV hz hke hsb ih
    as_aux_lemma =>
    go_wp2_with fail
    go_ret2
    exact ⟨by rw [← H1.out,← H2.out,HZ.out];rfl,rfl⟩
end Go.Proofs.YteidgdpaolieaaaGreatDoor

/- Contracts of the reference's CheckAttrs, checkNodes and CheckTree: what is wrong with a tree. Condition: at most 33554432 nodes, attributes, letters and names. -/
namespace Mk
theorem hasAt_mono (l : List At) (n : Bs) (i k : Nat) (hik : i≤k) (h : hasAt (l.take i) n = true) : hasAt (l.take k) n = true:=by
 unfold hasAt at *
 rw [List.any_eq_true] at *
 obtain ⟨x,hx,hq⟩:=h
 refine ⟨x,?_,hq⟩
 have e : l.take i = (l.take k).take i:=by rw [List.take_take,Nat.min_eq_left hik]
 rw [e] at hx
 exact List.mem_of_mem_take hx
end Mk
namespace Go.Proofs.YteidgdpaolieaaaGreatDoor
open Go.RowKit
theorem eg_IsName (args : Array Value) (w : World) : (callFunc 68 args).run Tryz.prog w = .ok (.enter 68 args) w:=run_callFunc_enter' Tryz.func68 (by kernel_rfl) rfl _ _
set_option maxHeartbeats 8000000 in
set_option maxRecDepth 100000 in
theorem rf_CheckAttrs (l : List Mk.At) (v : Value) (K : Nat→Prop) (w : World) (hv : AtsV w K v l) (hK : ∀ b,K b→b < w.heap.size) (hl : Mk.Fo.atB l≤33554432) :
  Calls Tryz.prog 70 #[v,.func (.func 68) #[] #[]] w fun e w'=>e = .returned (.int .i64 (Mk.checkAts Mk.isName [] l))∧Below w.heap.size w w':=by
 have hst : ∀ l : List UInt8,(st l).toList = l:=fun l=>Lib.toList_data _
 obtain ⟨ao,cap,hv1,hvm,hvc⟩:=hv.get
 subst hv1
 have HV:=Lib.hid hvc
 have HK:=Lib.hid hK
 have hll:=Mk.atB_len l
 have eg:=eg_IsName
 clear hvc hv hK
 go_enter Tryz.func70,Tryz.ntmps70
 go_wp2_with fail
 go_loopw [5] (fun i wr=>∃ k : Nat,k≤l.length∧i = .int .i64 (k : Int)∧Hid (Mk.checkAts Mk.isName [] l = Mk.checkAts Mk.isName (l.take k) (l.drop k))∧Hid (Below w.heap.size w wr)) (fun i _=>l.length - (intOf i).toNat)
 case atStart=>exact ⟨0,Nat.zero_le _,rfl,rfl,Below.refl _ _⟩
 case round =>
  obtain ⟨k,hk,rfl,HA,BL⟩:=hrel
  by_cases hlt : k < l.length
  ·obtain ⟨g,o,rfl,hKg,c0,_⟩:=HV.out k hlt
   rw [← BL.out.cell (p:=⟨g,_,none⟩) (HK.out g hKg)] at c0
   have hmem:=Mk.atB_mem (List.getElem_mem hlt)
   have HD : Hid (Mk.checkAts Mk.isName [] l = if !Mk.isName l[k].n then 1 else if Mk.hasAt (l.take k) l[k].n then 6 else Mk.checkAts Mk.isName (l.take (k + 1)) (l.drop (k + 1))):=by show _ = _;rw [HA.out,Mk.checkAts_step _ _ _ hlt]
   obtain ⟨x,hx⟩ : ∃ x,l[k] = x:=⟨_,rfl⟩
   rw [hx] at c0 hmem HD
   have HX:=Lib.hid hx
   have hki : (k : Int) < l.length:=by omega
   have hk0 : (0 : Int)≤k:=by omega
   have HN : Hid (∀ W,Calls Tryz.prog 68 #[.string (st x.n)] W fun e w'=>e = .returned (.bool (Mk.isName x.n))∧w' = W):=fun W=>rf_IsName x.n W (by omega)
   clear HA hx
   cases hin : Mk.isName x.n with
   | false =>
    rw [hin] at HN
    have HR : Hid (Mk.checkAts Mk.isName [] l = 1):=by show _ = _;rw [HD.out,hin];rfl
    clear HD hin HV
    as_aux_lemma =>
    go_wp2_with fail
    refine (HN.out _).mono ?_
    rintro e w2 ⟨rfl,hw2⟩
    subst w2
    go_wp2_with fail
    go_ret
    exact ⟨by (rw [HR.out]) <;> rfl,BL.out⟩
   | true =>
    rw [hin] at HN
    have HD2 : Hid (Mk.checkAts Mk.isName [] l = if Mk.hasAt (l.take k) x.n then 6 else Mk.checkAts Mk.isName (l.take (k + 1)) (l.drop (k + 1))):=by show _ = _;rw [HD.out,hin];rfl
    clear HD hin
    as_aux_lemma =>
    go_wp2_with fail
    refine (HN.out _).mono ?_
    rintro e w2 ⟨rfl,hw2⟩
    subst w2
    clear HN
    obtain ⟨w1,hw1⟩ : ∃ x,x = wr:=⟨_,rfl⟩
    subst hw1
    go_wp2_with fail
    go_loopw [6] (fun i wr2=>∃ j : Nat,j≤k∧i = .int .i64 (j : Int)∧Hid (Mk.hasAt (l.take j) x.n = false)∧Hid (Below w.heap.size w wr2)) (fun i _=>k - (intOf i).toNat)
    case atStart=>exact ⟨0,Nat.zero_le _,rfl,rfl,BL.out⟩
    case round =>
     obtain ⟨j,hj,rfl,HJ,BL2⟩:=hrel
     by_cases hjk : j < k
     ·obtain ⟨g2,o2,hao2,hKg2,d0,_⟩:=HV.out j (by omega)
      injection hao2 with hao2
      injection hao2 with e1 e2 _
      subst e1
      subst e2
      rw [← BL2.out.cell (p:=⟨g,_,none⟩) (HK.out g hKg)] at d0
      have c1 : wr.cell? ⟨g,o + k * 2,none⟩ = some (.string (st x.n)):=((BL2.out.cell (p:=⟨g,_,none⟩) (HK.out g hKg)).trans (BL.out.cell (p:=⟨g,_,none⟩) (HK.out g hKg)).symm).trans c0
      have HT:=Lib.hid (Mk.hasAt_take l x.n j (by omega))
      obtain ⟨y,hy⟩ : ∃ y,l[j] = y:=⟨_,rfl⟩
      rw [hy] at d0 HT
      have hji : (j : Int) < k:=by omega
      have hjl : (j : Int) < l.length:=by omega
      have hj0 : (0 : Int)≤j:=by omega
      clear hy HV
      rcases name_cases y.n x.n with ⟨h,q⟩ | ⟨h,q⟩
      ·have HR : Hid (Mk.checkAts Mk.isName [] l = 6):=by
        show _ = _
        rw [HD2.out,if_pos (Mk.hasAt_mono l x.n (j + 1) k hjk (by rw [HT.out,HJ.out,q];rfl))]
       clear h HJ HT HD2 HX c0
       as_aux_lemma =>
       go_wp2_with fail
       go_quiet (fail)
       go_wp2_with fail
       go_ret
       exact ⟨by (rw [HR.out]) <;> rfl,below_drewN BL2.out _⟩
      ·have HJ2 : Hid (Mk.hasAt (l.take (j + 1)) x.n = false):=by show _ = _;rw [HT.out,HJ.out,q];rfl
       clear h HJ HT HD2 HX c0
       as_aux_lemma =>
       go_wp2_with fail
       go_quiet (fail)
       go_wp2_with fail
       go_roundw
       case rel=>exact ⟨j + 1,by omega,by go_num,HJ2,below_drewN BL2.out _⟩
       case measure=>simp [intOf];omega
     ·have hje : j = k:=by omega
      have HR : Hid (Mk.checkAts Mk.isName [] l = Mk.checkAts Mk.isName (l.take (k + 1)) (l.drop (k + 1))):=by show _ = _;rw [HD2.out,← hje,HJ.out,if_neg (by simp)]
      have hji : ¬ (j : Int) < k:=by omega
      clear HJ HD2 HX hje HV c0
      as_aux_lemma =>
      go_wp2_with fail
      go_roundw
      case rel=>exact ⟨k + 1,by omega,by go_num,HR,BL2⟩
      case measure=>simp [intOf];omega
  ·have HE : Hid (Mk.checkAts Mk.isName [] l = 0):=by show _ = _;rw [HA.out,List.drop_of_length_le (by omega)];rfl
   have hki : ¬ (k : Int) < l.length:=by omega
   clear HA HV
   as_aux_lemma =>
   go_wp2_with fail
   go_ret
   exact ⟨by (rw [HE.out]) <;> rfl,BL.out⟩
def CheckC (f : Mk.Fo) : Prop:=∀ (op : List (List UInt8)) (v vo : Value) (K : Nat→Prop) (w : World),FoV w K v f→StrsV w K vo op→(∀ b,K b→b < w.heap.size)→op.length + f.bulk≤33554432 →
 Calls Tryz.prog 30 #[v,vo] w fun e w'=>e = .returned (.int .i64 (Mk.checkF f op false))∧Below w.heap.size w w'
/-- does a text stand ahead of a place? -/
def prevB (f : Mk.Fo) (k : Nat) (p : Bool) : Prop:=(k = 0∧p = false) ∨ (0 < k∧∃ n a t kk r,f.drop (k - 1) = .node n a t kk r∧p = decide (n = []))
set_option maxHeartbeats 16000000 in
set_option maxRecDepth 100000 in
theorem rf_checkNodes (N : Nat) : ∀ f : Mk.Fo,f.bulk < N→CheckC f:=by
 induction N with
 | zero=>intro f hN;omega
 | succ N ih =>
  intro f hN op v vo K w hv hvo hK hb
  have hst : ∀ l : List UInt8,(st l).toList = l:=fun l=>Lib.toList_data _
  obtain ⟨ao,cap,hv1,hvm,hvc⟩:=hv.get
  subst hv1
  obtain ⟨aop,capp,hvo1,hcapp,hcapm,hsat⟩:=hvo.at_
  subst hvo1
  have HV:=Lib.hid hvc
  have HSA:=Lib.hid hsat
  have HVO:=Lib.hid hvo
  have HK:=Lib.hid hK
  have hfl:=Mk.Fo.len_bulk f
  clear hvc hsat hv hvo hK
  go_enter Tryz.func30,Tryz.ntmps30
  go_wp2_with fail
  go_loopw [5] (fun i wr=>∃ (k : Nat) (p : Bool),k≤f.len∧i = .int .i64 (k : Int)∧Hid (prevB f k p)∧Hid (Mk.checkF f op false = Mk.checkF (f.drop k) op p)∧Hid (Below w.heap.size w wr)) (fun i _=>f.len - (intOf i).toNat)
  case atStart=>exact ⟨0,false,Nat.zero_le _,rfl,.inl ⟨rfl,rfl⟩,by show _ = _;rw [Mk.Fo.drop_zero],Below.refl _ _⟩
  case round =>
   obtain ⟨k,p,hk,rfl,HP,HJ,BL⟩:=hrel
   by_cases hlt : k < f.len
   ·obtain ⟨n,a,t,kk,r,hd,hd1⟩:=Mk.Fo.drop_lt f k hlt
    obtain ⟨g,o,aoa,capa,aok,capk,rfl,hKg,c0,c1,c2,c3,hva,hvk⟩:=HV.out k n a t kk r hd
    have hgw:=HK.out g hKg
    have hdb : (f.drop k).bulk = 1 + n.length + t.length + Mk.Fo.atB a + kk.bulk + r.bulk:=by rw [hd];rfl
    have hdb2:=Mk.Fo.drop_bulk f k
    have hatl:=Mk.atB_len a
    have hkl:=Mk.Fo.len_bulk kk
    have hbb : 1 + n.length + t.length + Mk.Fo.atB a + kk.bulk≤f.bulk:=by omega
    rw [← BL.out.cell (p:=⟨g,_,none⟩) hgw] at c0 c1 c2 c3
    have HJ2 : Hid (Mk.checkF f op false = Mk.checkF (.node n a t kk r) op p):=by show _ = _;rw [HJ.out,hd]
    have HP2 : Hid (prevB f (k + 1) (decide (n = []))):=.inr ⟨Nat.succ_pos _,n,a,t,kk,r,hd,rfl⟩
    have HDR:=Lib.hid hd1
    have hal1:=(Below.refl wr.heap.size wr).alloc (Nat.le_refl _) (.cells #[.string (st n),.slice aoa a.length capa,.string (st t),.slice aok kk.len capk] 52)
    have BL1:=Lib.hid (BL.out.trans (hal1.mono BL.out.size))
    have PB:=Lib.hid (Blk.new wr 52 #[.string (st n),.slice aoa a.length capa,.string (st t),.slice aok kk.len capk])
    have hki : (k : Int) < f.len:=by omega
    have hk0 : (0 : Int)≤k:=by omega
    have HPV : Hid (0 < k→∃ n',p = decide (n' = [])∧w.cell? ⟨g,o + (k - 1) * 4,none⟩ = some (.string (st n'))):=fun hk1=>by
     rcases HP.out with ⟨q,_⟩ | ⟨_,n',a',t',kk',r',hq,hp⟩
     ·omega
     ·obtain ⟨g',o',_,_,_,_,hao,_,e0,_⟩:=HV.out (k - 1) n' a' t' kk' r' hq
      injection hao with hao
      injection hao with e1 e2 _
      subst e1
      subst e2
      exact ⟨n',hp,e0⟩
    have HP0 : Hid (k = 0→p = false):=fun hk1=>by
     rcases HP.out with ⟨_,q⟩ | ⟨q,_⟩
     ·exact q
     ·omega
    have HVA:=Lib.hid (hva.below HK.out BL1.out)
    have HVK:=Lib.hid hvk
    clear hd hd1 hva hvk hdb2 hal1 HJ HP HV
    go_upto_region 5 with fail
    generalize (wr.alloc (.cells #[.string (st n),.slice aoa a.length capa,.string (st t),.slice aok kk.len capk] 52)) = w1 at BL1 PB HVA ⊢
    generalize wr.heap.size = T at PB ⊢
    clear c0 c1 c2 c3 BL
    have d0 : w1.cell? ⟨T,0,none⟩ = some (.string (st n)):=Blk.cell PB.out 0
    have d1 : w1.cell? ⟨T,1,none⟩ = some (.slice aoa a.length capa):=Blk.cell PB.out 1
    have d2 : w1.cell? ⟨T,2,none⟩ = some (.string (st t)):=Blk.cell PB.out 2
    have d3 : w1.cell? ⟨T,3,none⟩ = some (.slice aok kk.len capk):=Blk.cell PB.out 3
    have hTl : T < w1.heap.size:=Blk.lt PB.out
    by_cases hn : n = []
    ·subst hn
     have HE0 : Hid (Mk.nodeE op [] a t kk = if t = [] ∨ a ≠ [] ∨ kk ≠ .nil then 1 else 0):=rfl
     have HJ3 : Hid (Mk.checkF f op false = if Mk.nodeE op [] a t kk ≠ 0 then Mk.nodeE op [] a t kk else if p then 4 else if Mk.checkF kk (op++[[]]) false ≠ 0 then Mk.checkF kk (op++[[]]) false else Mk.checkF r op true):=by show _ = _;rw [HJ2.out,Mk.checkF];simp
     clear HJ2
     as_aux_lemma =>
     have hst0 : (st ([] : List UInt8)).toList = []:=Lib.toList_data _
     go_upto_region 6 with fail
     go_cut [33] (fun b wx=>b = .bool (decide (t = [] ∨ a ≠ [] ∨ kk ≠ .nil))∧w1 = wx)
     case first =>
      as_aux_lemma =>
      rcases name_cases t [] with ⟨h,q⟩ | ⟨h,q⟩
      ·have HB : Hid (decide (t = [] ∨ a ≠ [] ∨ kk ≠ .nil) = true):=decide_eq_true (.inl h)
       have qe : t.isEmpty = true:=by rw [h];rfl
       clear h q HE0 HJ3
       go_wp2_with fail
       go_meet
       case rel=>exact ⟨by rw [HB.out],rfl⟩
      ·have qe : t.isEmpty = false:=by cases t with | nil=>exact absurd rfl h | cons _ _=>rfl
       by_cases hs : 0 < a.length + kk.len
       ·have HB : Hid (decide (t = [] ∨ a ≠ [] ∨ kk ≠ .nil) = true):=by
         refine decide_eq_true (.inr ?_)
         by_cases ha : a = []
         ·right
          rintro rfl
          rw [ha] at hs
          exact absurd hs (Nat.lt_irrefl 0)
         ·exact .inl ha
        have hs2 : 0 < (a.length : Int) + kk.len:=by omega
        clear h q HE0 HJ3 hs
        go_wp2_with fail
        go_meet
        case rel=>exact ⟨by rw [HB.out],rfl⟩
       ·have HB : Hid (decide (t = [] ∨ a ≠ [] ∨ kk ≠ .nil) = false):=by
         refine decide_eq_false ?_
         rintro (q1 | q1 | q1)
         ·exact h q1
         ·exact q1 (List.eq_nil_of_length_eq_zero (by omega))
         ·have:=Fo_len_pos kk q1;omega
        have hs2 : ¬ 0 < (a.length : Int) + kk.len:=by omega
        clear h q HE0 HJ3 hs
        go_wp2_with fail
        go_meet
        case rel=>exact ⟨by rw [HB.out],rfl⟩
     case rest =>
     as_aux_lemma =>
     obtain ⟨rfl,hwx⟩:=hcut
     subst hwx
     by_cases hbad : t = [] ∨ a ≠ [] ∨ kk ≠ .nil
     ·have HR : Hid (Mk.checkF f op false = 1):=by show _ = _;rw [HJ3.out,HE0.out,if_pos hbad];rfl
      rw [decide_eq_true hbad]
      clear HJ3 HE0 hbad
      go_wp2_with fail
      go_ret
      exact ⟨by (rw [HR.out]) <;> rfl,BL1.out⟩
     rw [decide_eq_false hbad]
     have hkn : kk = .nil:=Decidable.byContradiction fun q=>hbad (.inr (.inr q))
     have HJ4 : Hid (Mk.checkF f op false = if p then 4 else Mk.checkF r op true):=by
      show _ = _
      rw [HJ3.out,HE0.out,if_neg hbad,hkn]
      simp [Mk.checkF]
     clear HJ3 HE0 hbad hkn
     by_cases hk1 : 0 < k
     ·obtain ⟨n',hp,e0⟩:=HPV.out hk1
      rw [← BL1.out.cell (p:=⟨g,_,none⟩) hgw] at e0
      obtain ⟨j,hj⟩ : ∃ j,j = k - 1:=⟨_,rfl⟩
      rw [← hj] at e0
      have hj1 : (k : Int) - 1 = j:=by omega
      have hj2 : (j : Int) < f.len:=by omega
      have hj3 : (0 : Int)≤j:=by omega
      have hki1 : (0 : Int) < k:=by omega
      clear hj HPV HP0
      rcases name_cases n' [] with ⟨h,q⟩ | ⟨h,q⟩
      ·have qe : n'.isEmpty = true:=by rw [h];rfl
       have HR : Hid (Mk.checkF f op false = 4):=by show _ = _;rw [HJ4.out,hp,h];rfl
       clear h q HJ4 hp
       go_wp2_with fail
       go_ret
       exact ⟨by (rw [HR.out]) <;> rfl,BL1.out⟩
      ·have qe : n'.isEmpty = false:=by cases n' with | nil=>exact absurd rfl h | cons _ _=>rfl
       have HR : Hid (Mk.checkF f op false = Mk.checkF (f.drop (k + 1)) op true):=by show _ = _;rw [HJ4.out,hp,decide_eq_false h,HDR.out];rfl
       clear h q HJ4 hp
       go_wp2_with fail
       go_roundw
       case rel=>exact ⟨k + 1,true,by omega,by go_num,HP2,HR,BL1⟩
       case measure=>simp [intOf];omega
     ·have hki1 : ¬ (0 : Int) < k:=by omega
      have HR : Hid (Mk.checkF f op false = Mk.checkF (f.drop (k + 1)) op true):=by show _ = _;rw [HJ4.out,HP0.out (by omega),HDR.out];rfl
      clear HJ4 HPV HP0
      go_wp2_with fail
      go_roundw
      case rel=>exact ⟨k + 1,true,by omega,by go_num,HP2,HR,BL1⟩
      case measure=>simp [intOf];omega
    ·have HN:=Lib.hid hn
     have he : n.isEmpty = false:=by
      cases n with
      | nil=>exact absurd rfl hn
      | cons _ _=>rfl
     have HJ3 : Hid (Mk.checkF f op false = if Mk.nodeE op n a t kk ≠ 0 then Mk.nodeE op n a t kk else if Mk.checkF kk (op++[n]) false ≠ 0 then Mk.checkF kk (op++[n]) false else Mk.checkF r op false):=by show _ = _;rw [HJ2.out,Mk.checkF];simp [HN.out]
     have HP3 : Hid (prevB f (k + 1) false):=by
      have:=HP2.out
      rw [decide_eq_false HN.out] at this
      exact this
     clear HJ2 HP2 HPV HP0 hn
     as_aux_lemma =>
     have HNM : Hid (∀ W,Calls Tryz.prog 68 #[.string (st n)] W fun e w'=>e = .returned (.bool (Mk.isName n))∧w' = W):=fun W=>rf_IsName n W (by omega)
     have HEM : Hid (∀ W,Calls Tryz.prog 69 #[.string (st n)] W fun e w'=>e = .returned (.bool (Mk.emptyB n))∧w' = W):=fun W=>rf_IsEmpty n W
     have HE0 : Hid (Mk.nodeE op n a t kk = if t ≠ [] ∨ !Mk.isName n ∨ (Mk.emptyB n∧kk ≠ .nil) then 1 else if Mk.checkAts Mk.isName [] a ≠ 0 then Mk.checkAts Mk.isName [] a else if Mk.stays op n < op.length then 4 else 0):=by show _ = _;unfold Mk.nodeE;rw [if_neg HN.out]
     go_upto_region 10 with fail
     go_cut [64] (fun b wx=>b = .bool (decide (t ≠ [] ∨ (!Mk.isName n) = true ∨ (Mk.emptyB n = true∧kk ≠ .nil)))∧w1 = wx)
     case first =>
      as_aux_lemma =>
      rcases name_cases t [] with ⟨h,q⟩ | ⟨h,q⟩
      rotate_left
      ·have qe : t.isEmpty = false:=by cases t with | nil=>exact absurd rfl h | cons _ _=>rfl
       have HB : Hid (decide (t ≠ [] ∨ (!Mk.isName n) = true ∨ (Mk.emptyB n = true∧kk ≠ .nil)) = true):=decide_eq_true (.inl h)
       clear h q HE0 HJ3 HNM HEM
       go_wp2_with fail
       go_meet
       case rel=>exact ⟨by rw [HB.out],rfl⟩
      have qe : t.isEmpty = true:=by rw [h];rfl
      have HT:=Lib.hid h
      clear h q HE0 HJ3
      cases hin : Mk.isName n with
      | false =>
       rw [hin] at HNM
       have HB : Hid (decide (t ≠ [] ∨ (!Mk.isName n) = true ∨ (Mk.emptyB n = true∧kk ≠ .nil)) = true):=decide_eq_true (.inr (.inl (by rw [hin];rfl)))
       clear hin HEM HT
       go_wp2_with fail
       refine (HNM.out _).mono ?_
       rintro e w2 ⟨rfl,hw2⟩
       subst w2
       go_wp2_with fail
       go_meet
       case rel=>exact ⟨by rw [HB.out],rfl⟩
      | true =>
       rw [hin] at HNM
       cases hem : Mk.emptyB n with
       | false =>
        rw [hem] at HEM
        have HB : Hid (decide (t ≠ [] ∨ (!Mk.isName n) = true ∨ (Mk.emptyB n = true∧kk ≠ .nil)) = false):=decide_eq_false (by rintro (q | q | q);exact q HT.out;rw [hin] at q;cases q;rw [hem] at q;cases q.1)
        clear hin hem HT
        go_wp2_with fail
        refine (HNM.out _).mono ?_
        rintro e w2 ⟨rfl,hw2⟩
        subst w2
        go_wp2_with fail
        refine (HEM.out _).mono ?_
        rintro e w2 ⟨rfl,hw2⟩
        subst w2
        go_wp2_with fail
        go_meet
        case rel=>exact ⟨by rw [HB.out],rfl⟩
       | true =>
        rw [hem] at HEM
        by_cases hkz : 0 < kk.len
        ·have HB : Hid (decide (t ≠ [] ∨ (!Mk.isName n) = true ∨ (Mk.emptyB n = true∧kk ≠ .nil)) = true):=decide_eq_true (.inr (.inr ⟨hem,by rintro rfl;exact absurd hkz (Nat.lt_irrefl 0)⟩))
         have hkz2 : (0 : Int) < kk.len:=by omega
         clear hin hem HT
         go_wp2_with fail
         refine (HNM.out _).mono ?_
         rintro e w2 ⟨rfl,hw2⟩
         subst w2
         go_wp2_with fail
         refine (HEM.out _).mono ?_
         rintro e w2 ⟨rfl,hw2⟩
         subst w2
         go_wp2_with fail
         go_meet
         case rel=>exact ⟨by rw [HB.out],rfl⟩
        ·have HB : Hid (decide (t ≠ [] ∨ (!Mk.isName n) = true ∨ (Mk.emptyB n = true∧kk ≠ .nil)) = false):=decide_eq_false (by rintro (q | q | q);exact q HT.out;rw [hin] at q;cases q;exact hkz (Fo_len_pos kk q.2))
         have hkz2 : ¬ (0 : Int) < kk.len:=by omega
         clear hin hem HT
         go_wp2_with fail
         refine (HNM.out _).mono ?_
         rintro e w2 ⟨rfl,hw2⟩
         subst w2
         go_wp2_with fail
         refine (HEM.out _).mono ?_
         rintro e w2 ⟨rfl,hw2⟩
         subst w2
         go_wp2_with fail
         go_meet
         case rel=>exact ⟨by rw [HB.out],rfl⟩
     case rest =>
     as_aux_lemma =>
     obtain ⟨rfl,hwx⟩:=hcut
     subst hwx
     clear HNM HEM
     by_cases hbad : t ≠ [] ∨ (!Mk.isName n) = true ∨ (Mk.emptyB n = true∧kk ≠ .nil)
     ·have HR : Hid (Mk.checkF f op false = 1):=by show _ = _;rw [HJ3.out,HE0.out,if_pos hbad];rfl
      rw [decide_eq_true hbad]
      clear HJ3 HE0 hbad
      go_wp2_with fail
      go_ret
      exact ⟨by (rw [HR.out]) <;> rfl,BL1.out⟩
     rw [decide_eq_false hbad]
     have HE1 : Hid (Mk.nodeE op n a t kk = if Mk.checkAts Mk.isName [] a ≠ 0 then Mk.checkAts Mk.isName [] a else if Mk.stays op n < op.length then 4 else 0):=by show _ = _;rw [HE0.out,if_neg hbad]
     clear HE0 hbad
     have HCA:=Lib.hid (rf_CheckAttrs a _ _ w1 HVA.out (fun b q=>Nat.lt_of_lt_of_le (HK.out b q) BL1.out.size) (by omega))
     obtain ⟨c0,hc0⟩ : ∃ c,Mk.checkAts Mk.isName [] a = c:=⟨_,rfl⟩
     rw [hc0] at HCA HE1
     obtain ⟨s0,hs0⟩ : ∃ s,Mk.stays op n = s:=⟨_,rfl⟩
     have HCL : Hid (∀ W,Below w1.heap.size w1 W→Calls Tryz.prog 71 #[.slice aop op.length capp,.string (st n)] W fun e w'=>e = .returned (.int .i64 s0)∧w' = W):=fun W hW=>by
      have hWW:=BL1.out.trans (hW.mono BL1.out.size)
      have:=rf_Closes op n (.slice aop op.length capp) K W (HVO.out.frame (fun b q=>⟨q,hWW.block b (HK.out b q)⟩)) (by omega)
      rw [hs0] at this
      exact this
     rw [hs0] at HE1
     clear hc0 hs0
     go_wp2_with fail
     refine HCA.out.mono ?_
     rintro e w2 ⟨rfl,hb2⟩
     have BLX:=Lib.hid hb2
     have BL2:=Lib.hid (BL1.out.trans (hb2.mono BL1.out.size))
     have e0 : w2.cell? ⟨T,0,none⟩ = some (.string (st n)):=(hb2.cell (p:=⟨T,0,none⟩) hTl).trans d0
     have e3 : w2.cell? ⟨T,3,none⟩ = some (.slice aok kk.len capk):=(hb2.cell (p:=⟨T,3,none⟩) hTl).trans d3
     have hT2 : T < w2.heap.size:=Nat.lt_of_lt_of_le hTl hb2.size
     have HCL2:=Lib.hid (HCL.out w2 hb2)
     clear hb2 HCA d0 d1 d2 d3 HCL HVA
     obtain ⟨c1,hc1⟩ : ∃ c,Mk.nodeE op n a t kk = c:=⟨_,rfl⟩
     rw [hc1] at HE1 HJ3
     clear hc1
     go_upto_region 13 with fail
     go_cut [78] (fun b wx=>b = .bool (decide (c0 = 0∧s0 < op.length))∧w2 = wx)
     case first =>
      as_aux_lemma =>
      by_cases h0 : c0 = 0
      ·subst h0
       by_cases hs : s0 < op.length
       ·have HB : Hid (decide ((0 : Int) = 0∧s0 < op.length) = true):=decide_eq_true ⟨rfl,hs⟩
        have hs2 : (s0 : Int) < op.length:=by omega
        clear HE1 HJ3
        go_wp2_with fail
        refine HCL2.out.mono ?_
        rintro e w3 ⟨rfl,hw3⟩
        subst w3
        go_wp2_with fail
        go_meet
        case rel=>exact ⟨by (rw [HB.out]) <;> simp [*],rfl⟩
       ·have HB : Hid (decide ((0 : Int) = 0∧s0 < op.length) = false):=decide_eq_false (fun q=>hs q.2)
        have hs2 : ¬ (s0 : Int) < op.length:=by omega
        clear HE1 HJ3
        go_wp2_with fail
        refine HCL2.out.mono ?_
        rintro e w3 ⟨rfl,hw3⟩
        subst w3
        go_wp2_with fail
        go_meet
        case rel=>exact ⟨by (rw [HB.out]) <;> simp [*],rfl⟩
      ·have HB : Hid (decide (c0 = 0∧s0 < op.length) = false):=decide_eq_false (fun q=>h0 q.1)
       have hcb : (c0 == 0) = false:=beq_eq_false_iff_ne.2 h0
       clear HE1 h0 HJ3
       go_wp2_with fail
       go_meet
       case rel=>exact ⟨by (rw [HB.out]) <;> rfl,rfl⟩
     case rest =>
     as_aux_lemma =>
     obtain ⟨rfl,hwx⟩:=hcut
     subst hwx
     clear HCL2
     go_upto_if 78 with fail
     go_cut [7] (fun v wx=>v = .int .i64 c1∧Hid (Below w2.heap.size w2 wx))
     case first =>
      as_aux_lemma =>
      by_cases h0 : c0 = 0∧s0 < op.length
      ·have HE3 : Hid (c1 = 4):=by show _ = _;rw [HE1.out,if_neg (by simp [h0.1]),if_pos h0.2]
       rw [decide_eq_true h0]
       clear HE1 h0 HJ3
       go_wp2_with fail
       go_meet
       case rel=>exact ⟨by rw [HE3.out],Below.refl _ _⟩
      ·have HE3 : Hid (c1 = c0):=by
        show _ = _
        rw [HE1.out]
        by_cases q : c0 = 0
        ·rw [if_neg (by simp [q]),if_neg (fun h=>h0 ⟨q,h⟩),q]
        ·rw [if_pos q]
       rw [decide_eq_false h0]
       clear HE1 h0 HJ3
       go_wp2_with fail
       go_meet
       case rel=>exact ⟨by rw [HE3.out],Below.refl _ _⟩
     case rest =>
     as_aux_lemma =>
     obtain ⟨rfl,BLY⟩:=hcut
     obtain ⟨w3,hw3⟩ : ∃ x,x = wc:=⟨_,rfl⟩
     subst hw3
     have BL3:=Lib.hid (BL2.out.trans (BLY.out.mono BL2.out.size))
     have f0 : w3.cell? ⟨T,0,none⟩ = some (.string (st n)):=(BLY.out.cell (p:=⟨T,0,none⟩) hT2).trans e0
     have f3 : w3.cell? ⟨T,3,none⟩ = some (.slice aok kk.len capk):=(BLY.out.cell (p:=⟨T,3,none⟩) hT2).trans e3
     have hT3 : T < w3.heap.size:=Nat.lt_of_lt_of_le hT2 BLY.out.size
     clear e0 e3 HE1 BLY BLX BL2
     by_cases h1 : c1 = 0
     rotate_left
     ·have HR : Hid (Mk.checkF f op false = c1):=by show _ = _;rw [HJ3.out,if_pos h1]
      have hcb : (c1 == 0) = false:=beq_eq_false_iff_ne.2 h1
      have hcb2 : (c1 != 0) = true:=by rw [bne,hcb];rfl
      clear h1 HJ3
      go_wp2_with fail
      go_ret
      exact ⟨by (rw [HR.out]) <;> rfl,BL3.out⟩
     subst h1
     have hih:=ih kk (by omega)
     unfold CheckC at hih
     obtain ⟨c2,hc2⟩ : ∃ c,Mk.checkF kk (op++[n]) false = c:=⟨_,rfl⟩
     have HJ4 : Hid (Mk.checkF f op false = if c2 ≠ 0 then c2 else Mk.checkF r op false):=by show _ = _;rw [HJ3.out,if_neg (by simp),hc2]
     have HIH : Hid (∀ (W : World) (u : Value),Below w3.heap.size w3 W→StrsV W (fun b=>b < W.heap.size) u (op++[n])→Calls Tryz.prog 30 #[.slice aok kk.len capk,u] W fun e w'=>e = .returned (.int .i64 c2)∧Below W.heap.size W w'):=fun W u hW hso=>by
      have hWW:=BL3.out.trans (hW.mono BL3.out.size)
      have:=hih (op++[n]) (.slice aok kk.len capk) u (fun b=>b < W.heap.size) W (HVK.out.frame (fun b q=>⟨Nat.lt_of_lt_of_le (HK.out b q) hWW.size,hWW.block b (HK.out b q)⟩)) hso (fun b q=>q) (by rw [List.length_append];simp;omega)
      rw [hc2] at this
      exact this
     have HSO : Hid (∀ W,Below w3.heap.size w3 W→op.length = 0 ∨ ∃ ad : Addr,aop = some ad∧∀ (m : Nat) (u : Value),(strVs op)[m]? = some u→W.cell? (ad.add m) = some u):=fun W hW=>by
      have hWW:=BL3.out.trans (hW.mono BL3.out.size)
      rcases HSA.out with h | ⟨g,o,h1,h2,h3⟩
      ·left;rw [h];rfl
      ·refine .inr ⟨⟨g,o,none⟩,h1,fun m u q=>?_⟩
       have hm : m < op.length:=by
        rcases Nat.lt_or_ge m op.length with q2 | q2
        ·exact q2
        ·rw [List.getElem?_eq_none (by simpa [strVs] using q2)] at q;cases q
       have hu : u = .string (st op[m]):=by
        have : (strVs op)[m]? = some (.string (st op[m])):=by simp [strVs,List.getElem?_eq_getElem hm]
        rw [this] at q
        injection q with q
        exact q.symm
       rw [addr_add,hu]
       exact (hWW.cell (p:=⟨g,o + m,none⟩) (HK.out g h2)).trans (h3 m hm)
     clear hih hc2 HJ3 ih HSA HVK
     go_upto_if 80 with fail
     go_cut [7] (fun v wx=>v = .int .i64 c2∧Hid (Below w3.heap.size w3 wx))
     case first =>
      as_aux_lemma =>
      have HFR : Hid (∀ W,Below w3.heap.size w3 W→W.cell? ⟨T,0,none⟩ = some (.string (st n))∧W.cell? ⟨T,3,none⟩ = some (.slice aok kk.len capk)):=fun W hW=>⟨(hW.cell (p:=⟨T,0,none⟩) hT3).trans f0,(hW.cell (p:=⟨T,3,none⟩) hT3).trans f3⟩
      go_wp2_with fail
      obtain ⟨i1,hj1,hy0,hy1,hy2⟩:=info_parts Tryz.infoStr
      have hl2 : (strVs op).length = op.length * 1:=by simp [strVs]
      have h1c : ∀ u ∈ strVs op,u.oneCell' = true:=by
       intro u hu
       unfold strVs at hu
       rw [List.mem_map] at hu
       obtain ⟨x,_,rfl⟩:=hu
       rfl
      have h1n : ∀ u ∈ [Value.string (st n)],u.oneCell' = true:=by intro u hu;simp at hu;rw [hu];rfl
      have HOW : Hid (∀ W q,Blk W q 9 #[]→w3.heap.size≤q→W.ownsRow w3.heap.size 9 1 (.slice (some ⟨q,0,none⟩) 0 0) 0 []):=fun W q hq hle=>⟨rfl,.inr ⟨q,0,#[],rfl,hle,hq,Nat.le_refl _,Nat.zero_le _,rfl,rfl⟩⟩
      have sE : (w3.alloc (.cells #[] 9)).heap.size = w3.heap.size + 1:=by simp
      have sN : (w3.alloc (.cells #[.string (st n)] 9)).heap.size = w3.heap.size + 1:=by simp
      have beA:=((Below.refl w3.heap.size w3).alloc (Nat.le_refl _) (.cells #[] 9)).drew
      have beN:=((Below.refl w3.heap.size w3).alloc (Nat.le_refl _) (.cells #[.string (st n)] 9)).drew
      have beB:=(((Below.refl w3.heap.size w3).alloc (Nat.le_refl _) (.cells #[.string (st n)] 9)).alloc (by simp) (.cells #[] 9)).drew
      have beC:=(((Below.refl w3.heap.size w3).alloc (Nat.le_refl _) (.cells #[] 9)).alloc (by simp) (.cells #[.string (st n)] 9)).drew
      have bA : Blk (w3.alloc (.cells #[] 9)).drew w3.heap.size 9 #[]:=Blk.new w3 _ _
      have bB : Blk ((w3.alloc (.cells #[.string (st n)] 9)).alloc (.cells #[] 9)).drew (w3.heap.size + 1) 9 #[]:=by rw [← sN];exact Blk.new (w3.alloc (.cells #[.string (st n)] 9)) _ _
      have bC : Blk ((w3.alloc (.cells #[] 9)).alloc (.cells #[.string (st n)] 9)).drew w3.heap.size 9 #[]:=Blk.alloc (Blk.new w3 _ _) _
      have nB : Blk ((w3.alloc (.cells #[.string (st n)] 9)).alloc (.cells #[] 9)).drew w3.heap.size 9 #[.string (st n)]:=Blk.alloc (Blk.new w3 _ _) _
      have nC : Blk ((w3.alloc (.cells #[] 9)).alloc (.cells #[.string (st n)] 9)).drew (w3.heap.size + 1) 9 #[.string (st n)]:=by rw [← sE];exact Blk.new (w3.alloc (.cells #[] 9)) _ _
      have owA:=HOW.out _ _ bA (Nat.le_refl _)
      have owB:=HOW.out _ _ bB (Nat.le_succ _)
      have owC:=HOW.out _ _ bC (Nat.le_refl _)
      clear sE sN bA bB bC BL3 BL1 HN HJ4 HP3 HDR PB
      go_region_held3 (fun w'=>w'.cell? ⟨T,0,none⟩ = some (.string (st n))∧w'.cell? ⟨T,3,none⟩ = some (.slice aok kk.len capk)) (first
       | exact HFR.out _ hB9
       | exact HFR.out _ hB8
       | exact HFR.out _ hB7
       | exact HFR.out _ (hB7.alloc hB7.size _)
       | exact HFR.out _ ((Below.refl _ _).drew)
       | exact HFR.out _ beA
       | exact HFR.out _ beN
       | exact HFR.out _ beB
       | exact HFR.out _ beC
       | fail "NO KEEP") (first | (go_at_call 30; refine (HIH.out _ _ hB8 SV8).mono ?_; rintro e w9 ⟨rfl, hb9⟩; have hB9 : Below w3.heap.size w3 w9 := hB8.trans (hb9.mono hB8.size)) | (refine wp_append_row_step rfl (.tmp 83) (.tmp 84) 54 rfl w3.heap.size 9 i1 (.string ⟨#[]⟩) 1 16 Tryz.underlying54 hj1 hy0 hy1 hy2 rfl (by decide) (w3.heap.size) (by simp [Act.eval, Act.put]) owA aop op.length capp (strVs op) (by simp [Act.eval, Act.put]) hl2 (HSO.out _ beA) h1c (run_append_zeroS _ _ _ _) (by unfold maxLen; omega) (by omega) beA.size ?_; intro v7 w7 hown7 hg7 hf7; obtain ⟨ao7s, cap7s, rfl⟩ := own_slice hown7; have hB7 : Below w3.heap.size w3 w7 := beA.grown hg7 beA.size (fun q hq => by have hq : some (w3.heap.size) = some q := hq; injection hq with hq; omega); have hs7 := hB7.size) | (refine wp_append_row_step rfl (.tmp 83) (.tmp 84) 54 rfl w3.heap.size 9 i1 (.string ⟨#[]⟩) 1 16 Tryz.underlying54 hj1 hy0 hy1 hy2 rfl (by decide) (w3.heap.size + 1) (by simp [Act.eval, Act.put]) owB aop op.length capp (strVs op) (by simp [Act.eval, Act.put]) hl2 (HSO.out _ beB) h1c (run_append_zeroS _ _ _ _) (by unfold maxLen; omega) (by omega) beB.size ?_; intro v7 w7 hown7 hg7 hf7; obtain ⟨ao7s, cap7s, rfl⟩ := own_slice hown7; have hB7 : Below w3.heap.size w3 w7 := beB.grown hg7 beB.size (fun q hq => by have hq : some (w3.heap.size + 1) = some q := hq; injection hq with hq; omega); have hs7 := hB7.size; have PN : Blk w7 (w3.heap.size) 9 #[.string (st n)] := (hg7.block (w3.heap.size) (by first | (simp; done) | (simp; omega)) (fun e => by have e : some (w3.heap.size) = some (w3.heap.size + 1) := e; injection e with e; omega)).trans nB) | (refine wp_append_row_step rfl (.tmp 83) (.tmp 84) 54 rfl w3.heap.size 9 i1 (.string ⟨#[]⟩) 1 16 Tryz.underlying54 hj1 hy0 hy1 hy2 rfl (by decide) (w3.heap.size) (by simp [Act.eval, Act.put]) owC aop op.length capp (strVs op) (by simp [Act.eval, Act.put]) hl2 (HSO.out _ beC) h1c (run_append_zeroS _ _ _ _) (by unfold maxLen; omega) (by omega) beC.size ?_; intro v7 w7 hown7 hg7 hf7; obtain ⟨ao7s, cap7s, rfl⟩ := own_slice hown7; have hB7 : Below w3.heap.size w3 w7 := beC.grown hg7 beC.size (fun q hq => by have hq : some (w3.heap.size) = some q := hq; injection hq with hq; omega); have hs7 := hB7.size; have PN : Blk w7 (w3.heap.size + 1) 9 #[.string (st n)] := (hg7.block (w3.heap.size + 1) (by first | (simp; done) | (simp; omega)) (fun e => by have e : some (w3.heap.size + 1) = some (w3.heap.size) := e; injection e with e; omega)).trans nC) | (refine wp_append_fresh_step rfl (.tmp 85) (.tmp 88) 54 rfl w3.heap.size 9 i1 (.string ⟨#[]⟩) 1 16 Tryz.underlying54 hj1 hy0 hy1 hy2 rfl (by decide) (.slice ao7s op.length cap7s) op.length (strVs op) (by simp [Act.eval, Act.put]) (own_ap' hown7 ((Ap.refl (fun _ => False) w7).alloc (.cells #[.string (st n)] 9)) (fun _ _ q => q)) ⟨w7.heap.size, 0, none⟩ 1 1 [.string (st n)] (by simp [Act.eval, Act.put]) rfl (cells_new _ _ _) h1n (by decide) (by unfold maxLen; omega) (by omega) (hB7.alloc hB7.size (.cells #[.string (st n)] 9)).size ?_; intro v8 w8 hown8 hg8 hf8; obtain ⟨ao8, cap8, rfl⟩ := own_slice hown8; have hB8 : Below w3.heap.size w3 w8 := (hB7.alloc hB7.size (.cells #[.string (st n)] 9)).grown hg8 (hB7.alloc hB7.size (.cells #[.string (st n)] 9)).size (fun q hq => (hown7.lt q hq).1); have SV8 : StrsV w8 (fun b => b < w8.heap.size) (.slice ao8 (op.length + 1) cap8) (op ++ [n]) := StrsV.of_row hown8 (fun g q => (hown8.lt g q).2)) | (refine wp_append_fresh_step rfl (.tmp 85) (.tmp 88) 54 rfl w3.heap.size 9 i1 (.string ⟨#[]⟩) 1 16 Tryz.underlying54 hj1 hy0 hy1 hy2 rfl (by decide) (.slice ao7s op.length cap7s) op.length (strVs op) (by simp [Act.eval, Act.put]) (hown7) ⟨w3.heap.size, 0, none⟩ 1 1 [.string (st n)] (by simp [Act.eval, Act.put]) rfl (blk_news PN) h1n (by decide) (by unfold maxLen; omega) (by omega) (hB7).size ?_; intro v8 w8 hown8 hg8 hf8; obtain ⟨ao8, cap8, rfl⟩ := own_slice hown8; have hB8 : Below w3.heap.size w3 w8 := (hB7).grown hg8 (hB7).size (fun q hq => (hown7.lt q hq).1); have SV8 : StrsV w8 (fun b => b < w8.heap.size) (.slice ao8 (op.length + 1) cap8) (op ++ [n]) := StrsV.of_row hown8 (fun g q => (hown8.lt g q).2)) | (refine wp_append_fresh_step rfl (.tmp 85) (.tmp 88) 54 rfl w3.heap.size 9 i1 (.string ⟨#[]⟩) 1 16 Tryz.underlying54 hj1 hy0 hy1 hy2 rfl (by decide) (.slice ao7s op.length cap7s) op.length (strVs op) (by simp [Act.eval, Act.put]) (hown7) ⟨w3.heap.size + 1, 0, none⟩ 1 1 [.string (st n)] (by simp [Act.eval, Act.put]) rfl (blk_news PN) h1n (by decide) (by unfold maxLen; omega) (by omega) (hB7).size ?_; intro v8 w8 hown8 hg8 hf8; obtain ⟨ao8, cap8, rfl⟩ := own_slice hown8; have hB8 : Below w3.heap.size w3 w8 := (hB7).grown hg8 (hB7).size (fun q hq => (hown7.lt q hq).1); have SV8 : StrsV w8 (fun b => b < w8.heap.size) (.slice ao8 (op.length + 1) cap8) (op ++ [n]) := StrsV.of_row hown8 (fun g q => (hown8.lt g q).2)))
      all_goals
       have HREL:=Lib.hid hB9
       clear hB9 hb9 hB8 SV8 hown8 hg8 hf8 hB7 hown7 hg7 hf7 HFR HOW HIH HSO
       go_wp2_with fail
       go_meet
       case rel=>exact ⟨rfl,HREL⟩
     case rest =>
     as_aux_lemma =>
     obtain ⟨rfl,BLY⟩:=hcut
     obtain ⟨w4,hw4⟩ : ∃ x,x = wc:=⟨_,rfl⟩
     subst hw4
     have BL4:=Lib.hid (BL3.out.trans (BLY.out.mono BL3.out.size))
     clear f0 f3 HIH HSO BLY BL3 BL1
     by_cases h2 : c2 = 0
     ·subst h2
      have HR : Hid (Mk.checkF f op false = Mk.checkF (f.drop (k + 1)) op false):=by show _ = _;rw [HJ4.out,if_neg (by simp),HDR.out]
      clear HJ4
      go_wp2_with fail
      go_roundw
      case rel=>exact ⟨k + 1,false,by omega,by go_num,HP3,HR,BL4⟩
      case measure=>simp [intOf];omega
     ·have HR : Hid (Mk.checkF f op false = c2):=by show _ = _;rw [HJ4.out,if_pos h2]
      have hcb : (c2 == 0) = false:=beq_eq_false_iff_ne.2 h2
      have hcb2 : (c2 != 0) = true:=by rw [bne,hcb];rfl
      clear h2 HJ4
      go_wp2_with fail
      go_ret
      exact ⟨by (rw [HR.out]) <;> rfl,BL4.out⟩
   ·have hke : k = f.len:=by omega
    have HE : Hid (Mk.checkF f op false = 0):=by show _ = _;rw [HJ.out,hke,Mk.Fo.drop_len];rfl
    have hki : ¬ (k : Int) < f.len:=by omega
    clear HJ HP HV hke
    as_aux_lemma =>
    go_wp2_with fail
    go_ret
    exact ⟨by (rw [HE.out]) <;> rfl,BL.out⟩
set_option maxHeartbeats 2000000 in
set_option maxRecDepth 100000 in
theorem rf_CheckTree (f : Mk.Fo) (v : Value) (K : Nat→Prop) (w : World) (hf : f.bulk≤33554432) (hv : FoV w K v f) (hK : ∀ b,K b→b < w.heap.size) :
  Calls Tryz.prog 10 #[v] w fun e w'=>e = .returned (.int .i64 (Mk.checkT f))∧Below w.heap.size w w':=by
 have HS:=Lib.hid (rf_count (f.bulk + 1) f 8 1 (Nat.lt_succ_self _) hf (by omega) (Nat.le_refl _) v K w hv)
 have HCN:=Lib.hid (rf_checkNodes (f.bulk + 1) f (Nat.lt_succ_self _) [] v (.slice none 0 0) K w hv (StrsV.nil _ _) hK (by simpa using hf))
 obtain ⟨ao,cap,xs,hv1,_⟩:=hv
 subst hv1
 have hsb:=Mk.sizeF_bulk 8 f
 have hc : Mk.checkT f = if 3000 < (Mk.sizeF 8 f).1 ∨ 8 < (Mk.sizeF 8 f).2 then 2 else Mk.checkF f [] false:=rfl
 obtain ⟨y,hy⟩ : ∃ y,Mk.sizeF 8 f = y:=⟨_,rfl⟩
 rw [hy] at HS hc hsb
 obtain ⟨y1,y2⟩:=y
 simp only at HS hc hsb
 have hmo : mo 1 y2 = (y2 : Int):=by
  unfold mo
  split
  ·omega
  ·omega
 rw [hmo] at HS
 have HC:=Lib.hid hc
 clear hc hy hmo
 go_enter Tryz.func10,Tryz.ntmps10
 go_wp2_with fail
 refine HS.out.mono ?_
 rintro e w1 ⟨rfl,hw1⟩
 subst w1
 clear HS
 by_cases h1 : 3000 < y1
 ·have h1' : (3000 : Int) < y1:=by omega
  go_wp2_with fail
  all_goals (go_ret;exact ⟨by (rw [HC.out,if_pos (.inl h1)]) <;> rfl,Below.refl _ _⟩)
 ·have h1' : ¬ (3000 : Int) < y1:=by omega
  by_cases h2 : 8 < y2
  ·have h2' : (8 : Int) < y2:=by omega
   go_wp2_with fail
   all_goals (go_ret;exact ⟨by (rw [HC.out,if_pos (.inr h2)]) <;> rfl,Below.refl _ _⟩)
  ·have h2' : ¬ (8 : Int) < y2:=by omega
   go_wp2_with fail
   refine HCN.out.mono ?_
   rintro e w2 ⟨rfl,hb2⟩
   have L2:=Lib.hid hb2
   clear HCN hb2
   go_wp2_with fail
   all_goals (go_ret;exact ⟨by (rw [HC.out,if_neg (by rintro (q | q);exact h1 q;exact h2 q)]) <;> rfl,L2.out⟩)
end Go.Proofs.YteidgdpaolieaaaGreatDoor
