/- Contract of the program's shelf.Check: what is wrong with a shelf. Condition: ids of at most 1048576 letters. -/
import Derived.Test.YtjonkbdldebkiaaGreatDoorYWeB
import Derived.Maps.OwnOps
import Derived.Maps.Views
import Derived.Deep.RegionHeld3
import Derived.Test.YtjonkbdldebkiaaGreatDoorYWeA
import Derived.Test.YtjonkbdldebkiaaGreatDoorYMkClean5
import Derived.Test.YtjonkbdldebkiaaGreatDoorYMkByt1
set_option linter.unusedVariables false
set_option linter.unusedSimpArgs false
namespace Fd
def cntId (id : Bs) (l : List En) : Nat:=(l.filter fun y=>y.id == id).length
theorem cnt_snoc (id : Bs) (l : List En) (x : En) : cntId id (l++[x]) = cntId id l + if x.id = id then 1 else 0:=by
 unfold cntId
 rw [List.filter_append,List.length_append]
 by_cases h : x.id = id
 ·rw [List.filter_cons_of_pos (by simpa using h),if_pos h];rfl
 ·rw [List.filter_cons_of_neg (by simpa using h),if_neg h];rfl
theorem cnt_le (id : Bs) (l : List En) : cntId id l≤l.length:=List.length_filter_le ..
theorem cnt_any (id : Bs) (l : List En) : (l.any fun y=>y.id == id) = decide (1≤cntId id l):=by
 rw [Bool.eq_iff_iff,List.any_eq_true,decide_eq_true_iff]
 unfold cntId
 constructor
 ·rintro ⟨y,h1,h2⟩
  exact List.length_pos_of_mem (List.mem_filter.2 ⟨h1,h2⟩)
 ·intro h
  obtain ⟨y,hy⟩:=List.exists_mem_of_length_pos h
  obtain ⟨h1,h2⟩:=List.mem_filter.1 hy
  exact ⟨y,h1,h2⟩
theorem checkEs_go (l : List En) (k : Nat) (h : k < l.length) : checkEs (l.take k) (l.drop k) = if checkEn l[k] ≠ 0 then checkEn l[k] else if 1≤cntId l[k].id (l.take k) then 6 else match (l.take k).getLast? with
  | none=>checkEs (l.take (k + 1)) (l.drop (k + 1))
  | some y=>if 0≤ordE y l[k] then 4 else checkEs (l.take (k + 1)) (l.drop (k + 1)):=by
 rw [List.drop_eq_getElem_cons h,checkEs,cnt_any,List.take_succ_eq_append_getElem h]
 by_cases q : 1≤cntId l[k].id (l.take k)
 ·rw [decide_eq_true q,if_pos rfl,if_pos q]
 ·simp only [decide_eq_false q,Bool.false_eq_true,if_false,if_neg q]
  cases (l.take k).getLast? <;> rfl
theorem take_snoc' (l : List En) (j : Nat) (h : j < l.length) : l.take (j + 1) = l.take j++[l[j]]:=List.take_succ_eq_append_getElem h
theorem en_time {x : En} (h : checkEn x = 0) : 0≤x.at_∧x.at_≤4102444799:=by
 unfold checkEn at h
 by_cases q1 : x.id = []
 ·rw [if_pos q1] at h;cases h
 rw [if_neg q1] at h
 by_cases q2 : 60 < x.id.length ∨ 3000 < x.ti.length ∨ 3000 < x.li.length ∨ 3000 < x.ht.length
 ·rw [if_pos q2] at h;cases h
 rw [if_neg q2] at h
 by_cases q3 : x.at_ < 0 ∨ 4102444799 < x.at_
 ·rw [if_pos q3] at h;cases h
 omega
end Fd
namespace Go.Proofs.YtjonkbdldebkiaaGreatDoor
open Go.RowKit Go.WideMaps Go.Maps
theorem slaw : Keyed Tryz.prog 9:=string_keyed Tryz.underlying9
theorem zeroI (w : World) : (zeroValue 3).run Tryz.prog w = .ok (.int .i64 0) w:=by kernel_rfl
/-- the map of a check: how often each id has come. -/
def Met (w : World) (Y : Nat) (l : List Fd.En) : Prop:=∃ D : DataW Unit,w.ownsMap Tryz.prog 9 (plainElem Tryz.prog 3) Y l.length D∧IsMap D∧∀ id : List UInt8,D.atKey (.string id) (.lit (.int .i64 0)) = .lit (.int .i64 (Fd.cntId id l : Nat))
theorem Met.frame {w w' : World} {Y : Nat} {l : List Fd.En} (h : Met w Y l) (hb : Below w.heap.size w w') : Met w' Y l:=by
 obtain ⟨D,h1,h2,h3⟩:=h
 exact ⟨D,h1.kept (row:=none) ⟨hb.os,hb.tape,hb.output,hb.size,fun k hk _=>hb.block k hk⟩ (by simp),h2,h3⟩
theorem Met.lt {w : World} {Y : Nat} {l : List Fd.En} (h : Met w Y l) : Y < w.heap.size:=by
 obtain ⟨D,h1,_⟩:=h
 exact h1.lt
theorem Met.new (w : World) : Met (w.alloc (.map #[] 0)) w.heap.size [] :=
 ⟨.map [],World.ownsMap_made _ _ _ _,isMap_empty,fun id=>rfl⟩
set_option maxHeartbeats 8000000 in
set_option maxRecDepth 100000 in
theorem sh_Check (s : Fd.Sh) (ve vr : Value) (K : Nat→Prop) (w : World) (hg : Gl w) (hve : EntsV w K ve s.es) (hvr : StrsV w K vr s.rd) (hK : ∀ b,K b→b < w.heap.size) (hid : ∀ x ∈ s.es,x.id.length≤1048576) :
  Calls Tryz.prog 13 #[.agg #[ve,vr]] w fun e w'=>e = .returned (.int .i64 (Fd.checkSh s))∧Below w.heap.size w w':=by
 have hst : ∀ l : List UInt8,(st l).toList = l:=fun l=>Lib.toList_data _
 have HC : Hid (Fd.checkSh s = if 20 < s.es.length ∨ 40 < s.rd.length then 2 else if Fd.checkEs [] s.es ≠ 0 then Fd.checkEs [] s.es else Fd.checkRd none s.rd):=rfl
 generalize Fd.checkSh s = c at HC ⊢
 obtain ⟨es,rd⟩:=s
 simp only at HC hve hvr hid ⊢
 obtain ⟨aoe,cape,he1,_,hec,hem⟩:=id hve
 obtain ⟨aor,capr,hr1,hrc,_,hrm⟩:=id hvr
 subst he1;subst hr1
 obtain ⟨g,o,cap,hKg,hev,hcl⟩:=hve.at_
 have HCL:=Lib.hid hcl
 have HEV:=Lib.hid hev
 have HKG:=Lib.hid hKg
 have HK:=Lib.hid hK
 have HVR:=Lib.hid hvr
 have HID:=Lib.hid hid
 have HG:=Lib.hid hg
 have hel : es.length≤9223372036854775807:=by unfold maxLen at hem;omega
 have hrl : rd.length≤9223372036854775807:=by unfold maxLen at hrm;omega
 have hal:=(Below.refl w.heap.size w).alloc (Nat.le_refl _) (.cells #[.slice aoe es.length cape,.slice aor rd.length capr] 26)
 have HAL:=Lib.hid hal
 have XB:=Lib.hid (Blk.new w 26 #[.slice aoe es.length cape,.slice aor rd.length capr])
 have hmm:=@run_makeMap Tryz.prog
 have hgl:=hg.lt
 clear hal hve hvr hK hid hg hcl hev hKg hec hrc hem hrm
 by_cases h1 : 20 < es.length
 ·have HE : Hid (c = 2):=by show _ = _;rw [HC.out,if_pos (.inl h1)]
  clear HC
  go_enter Tryz.func13,Tryz.ntmps13
  go_wp2_with fail
  go_ret
  exact ⟨ret_int (by rw [HE.out]),HAL.out⟩
 by_cases h2 : 40 < rd.length
 ·have HE : Hid (c = 2):=by show _ = _;rw [HC.out,if_pos (.inr h2)]
  clear HC
  go_enter Tryz.func13,Tryz.ntmps13
  go_wp2_with fail
  go_ret
  exact ⟨ret_int (by rw [HE.out]),HAL.out⟩
 rw [if_neg (by rintro (q | q) <;> omega)] at HC
 go_enter Tryz.func13,Tryz.ntmps13
 go_upto_region 4 with fail
 have MT0:=Met.new (w.alloc (.cells #[.slice aoe es.length cape,.slice aor rd.length capr] 26))
 rw [World.size_alloc] at MT0
 have MT:=Lib.hid MT0
 clear MT0
 have XB1:=Lib.hid (Blk.alloc XB.out (.map #[] 0))
 have BL1:=Lib.hid (HAL.out.alloc HAL.out.size (.map #[] 0))
 have hXY : w.heap.size < w.heap.size + 1:=Nat.lt_succ_self _
 clear XB HAL hmm
 generalize w.heap.size + 1 = Y at MT hXY ⊢
 generalize (w.alloc (.cells #[.slice aoe es.length cape,.slice aor rd.length capr] 26)).alloc (.map #[] 0) = w1 at MT XB1 BL1 ⊢
 have x0 : w1.cell? ⟨w.heap.size,0,none⟩ = some (.slice aoe es.length cape):=Blk.cell XB1.out 0
 go_wp2_with fail
 clear x0
 go_loopw [21] (fun i wr=>∃ k : Nat,k≤es.length∧i = .int .i64 k∧Hid (Fd.checkEs [] es = Fd.checkEs (es.take k) (es.drop k))∧Hid (Met wr Y (es.take k))∧Hid (∀ x ∈ es.take k,Fd.checkEn x = 0)∧Hid (Below w.heap.size w wr)∧Hid (Blk wr w.heap.size 26 #[.slice aoe es.length cape,.slice aor rd.length capr])) (fun i _=>es.length - (intOf i).toNat)
 case atStart=>exact ⟨0,Nat.zero_le _,rfl,rfl,MT,fun x h=>by simp at h,BL1,XB1⟩
 case round =>
  clear MT XB1 BL1
  obtain ⟨k,hk,rfl,HL,MT,HO,BL,XB⟩:=hrel
  have hsz:=BL.out.size
  by_cases hlt : k < es.length
  ·obtain ⟨hv1,hKg⟩ : Value.slice aoe es.length cape = .slice (some ⟨g,o,none⟩) es.length cap∧K g:=by
    rcases HEV.out with q | ⟨ao,_,q⟩
    ·exact ⟨q,HKG.out (by intro e;rw [e] at hlt;exact absurd hlt (Nat.not_lt_zero _))⟩
    ·rw [q] at hlt;exact absurd hlt (Nat.not_lt_zero _)
   injection hv1 with e1 _ e3
   subst e1;subst e3
   obtain ⟨c0,c1,c2,c3,c4⟩:=HCL.out k hlt
   have hgl2:=HK.out g hKg
   rw [← BL.out.cell (p:=⟨g,_,none⟩) hgl2] at c0 c1 c2 c3 c4
   have HGO : Hid (Fd.checkEs [] es = _):=HL.out.trans (Fd.checkEs_go es k hlt)
   have HXM:=Lib.hid (List.getElem_mem hlt)
   have HTK : Hid (es.take (k + 1) = es.take k++[es[k]]):=List.take_succ_eq_append_getElem hlt
   obtain ⟨x,hx⟩ : ∃ x,es[k] = x:=⟨_,rfl⟩
   rw [hx] at c0 c1 c2 c3 c4 HGO HXM HTK
   have hidl:=HID.out x HXM.out
   have hal:=(Below.refl wr.heap.size wr).alloc (Nat.le_refl _) (.cells #[.string (st x.id),.string (st x.ti),.string (st x.li),.int .i64 x.at_,.string (st x.ht)] 44)
   have RB:=Lib.hid (Blk.new wr 44 #[.string (st x.id),.string (st x.ti),.string (st x.li),.int .i64 x.at_,.string (st x.ht)])
   have MT1:=Lib.hid (MT.out.frame hal)
   have BL1:=Lib.hid (BL.out.trans (hal.mono hsz))
   have XB1:=Lib.hid (Blk.below XB.out hal (Blk.lt XB.out))
   have HXE:=Lib.hid hx
   have hYR : Y < wr.heap.size:=MT.out.lt
   clear hal hx HL MT BL XB HXM
   go_upto_region 7 with fail
   clear c0 c1 c2 c3 c4
   generalize wr.alloc (.cells #[.string (st x.id),.string (st x.ti),.string (st x.li),.int .i64 x.at_,.string (st x.ht)] 44) = w2 at RB MT1 BL1 XB1 ⊢
   generalize wr.heap.size = R at RB hsz hYR ⊢
   have r0 : w2.cell? ⟨R,0,none⟩ = some (.string (st x.id)):=Blk.cell RB.out 0
   have hk20 : (es.take k).length≤20:=by rw [List.length_take];omega
   have hkey : keyOf Tryz.prog 9 (.string (st x.id)) = some (.string x.id):=keyOf_string_mk Tryz.underlying9 (by rw [st_size];unfold maxLen;omega)
   have HKY:=Lib.hid hkey
   obtain ⟨D,ow,hD,hat⟩:=MT1.out
   have HAT:=Lib.hid hat
   have HD:=Lib.hid hD
   clear hat hD hkey
   go_cut [] (fun wx=>Hid (Met wx Y (es.take (k + 1)))∧Hid (Below w.heap.size w wx)∧Hid (Blk wx w.heap.size 26 #[.slice (some ⟨g,o,none⟩) es.length cape,.slice aor rd.length capr])∧Hid (Blk wx R 44 #[.string (st x.id),.string (st x.ti),.string (st x.li),.int .i64 x.at_,.string (st x.ht)]))
   case first =>
    go_wp2_with (first
     | (at_lookup;refine wpList_lookup_own_int _ rfl _ _ 89 rfl 9 3 .i64 slaw Tryz.underlying89 Tryz.underlying3 (zeroI _) Y _ D rfl ow _ _ rfl HKY.out ?_;intro c1 hc1 hwc;have HC1:=Lib.hid hc1;clear hc1 hwc)
     | (at_mapUpdate;refine wpList_mapUpdate_own _ rfl _ _ _ 89 rfl 9 3 slaw Tryz.underlying89 _ Y _ D rfl ow (by unfold maxLen;omega) _ _ _ rfl rfl HKY.out _ [] (plainElem_int Tryz.underlying3 (wrap64_wf _)) ?_;intro w3 ow3 hg3;have OW3:=Lib.hid ow3;have HG3:=Lib.hid hg3;clear ow3 hg3))
    go_meet
    case rel =>
     have hc : c1 = (Fd.cntId x.id (es.take k) : Nat):=by
      have h:=HC1.out.symm.trans (HAT.out x.id)
      injection h with h
      injection h
     have hcl:=Fd.cnt_le x.id (es.take k)
     have hw : wrap64 (c1 + 1) = ((Fd.cntId x.id (es.take k) + 1 : Nat) : Int):=by rw [hc];unfold wrap64;omega
     refine ⟨⟨D.put (.string x.id) (.lit (.int .i64 (wrap64 (c1 + 1)))),?_,HD.out.put _ _,fun id=>?_⟩,BL1.out.grown HG3.out BL1.out.size (fun q e=>by cases e;omega),Blk.grown XB1.out HG3.out (by intro e;injection e with e;omega),Blk.grown RB.out HG3.out (by intro e;injection e with e;omega)⟩
     ·have h:=OW3.out
      rw [HTK.out,List.length_append];exact h
     ·by_cases hi : id = x.id
      ·subst hi
       rw [atKey_put_same HD.out (by trivial),HTK.out,Fd.cnt_snoc,if_pos rfl]
       show DataW.lit (.int .i64 (wrap64 (c1 + 1))) = _
       rw [hw]
      ·rw [atKey_put_other (by intro e;injection e with e;exact hi e),HAT.out id,HTK.out,Fd.cnt_snoc,if_neg (fun e=>hi e.symm)]
       rfl
   case rest =>
   as_aux_lemma =>
   obtain ⟨MT3,BL3,XB3,RB3⟩:=hcut
   obtain ⟨w3,hw3⟩ : ∃ y,y = wc:=⟨_,rfl⟩
   subst hw3
   clear r0 ow HAT HD MT1 BL1 XB1 RB HKY
   have r0 : w3.cell? ⟨R,0,none⟩ = some (.string (st x.id)):=Blk.cell RB3.out 0
   have r1 : w3.cell? ⟨R,1,none⟩ = some (.string (st x.ti)):=Blk.cell RB3.out 1
   have r2 : w3.cell? ⟨R,2,none⟩ = some (.string (st x.li)):=Blk.cell RB3.out 2
   have r3 : w3.cell? ⟨R,3,none⟩ = some (.int .i64 x.at_):=Blk.cell RB3.out 3
   have r4 : w3.cell? ⟨R,4,none⟩ = some (.string (st x.ht)):=Blk.cell RB3.out 4
   have HCK:=Lib.hid (fd_Check x w3 (HG.out.below BL3.out hgl))
   obtain ⟨d,hd⟩ : ∃ d,Fd.checkEn x = d:=⟨_,rfl⟩
   rw [hd] at HCK HGO
   have HDX:=Lib.hid hd
   clear hd
   go_wp2_with fail
   refine HCK.out.mono ?_
   rintro e w4 ⟨rfl,hb4⟩
   have MT4:=Lib.hid (MT3.out.frame hb4)
   have BL4:=Lib.hid (BL3.out.trans (hb4.mono BL3.out.size))
   have XB4:=Lib.hid (Blk.below XB3.out hb4 (Blk.lt XB3.out))
   have RB4:=Lib.hid (Blk.below RB3.out hb4 (Blk.lt RB3.out))
   clear hb4 HCK r0 r1 r2 r3 r4 MT3 BL3 XB3 RB3
   by_cases q1 : d = 0
   ·subst q1
    rw [if_neg (by decide)] at HGO
    have r0 : w4.cell? ⟨R,0,none⟩ = some (.string (st x.id)):=Blk.cell RB4.out 0
    have hkey : keyOf Tryz.prog 9 (.string (st x.id)) = some (.string x.id):=keyOf_string_mk Tryz.underlying9 (by rw [st_size];unfold maxLen;omega)
    have HKY:=Lib.hid hkey
    obtain ⟨D,ow,hD,hat⟩:=MT4.out
    have HAT : Hid (D.atKey (.string x.id) (.lit (.int .i64 0)) = .lit (.int .i64 ((Fd.cntId x.id (es.take k) + 1 : Nat) : Int))):=by
     show _ = _
     rw [hat x.id,HTK.out,Fd.cnt_snoc,if_pos rfl]
    clear hat hD hkey
    have HO2 : Hid (∀ y ∈ es.take (k + 1),Fd.checkEn y = 0):=by
     intro y hy
     rw [HTK.out] at hy
     rcases List.mem_append.1 hy with q | q
     ·exact HO.out y q
     ·have : y = x:=by simpa using q
      rw [this];exact HDX.out
    by_cases q2 : 1≤Fd.cntId x.id (es.take k)
    ·have HE : Hid (c = 6):=by show _ = _;rw [HC.out,HGO.out,if_pos q2,if_pos (by decide)]
     clear HGO
     go_wp2_with (first
      | (at_lookup;refine wpList_lookup_own_int _ rfl _ _ 89 rfl 9 3 .i64 slaw Tryz.underlying89 Tryz.underlying3 (zeroI _) Y _ D rfl ow _ _ rfl HKY.out ?_;intro c1 hc1 hwc;have hc3 : (1 : Int) < c1:=(by have h:=HAT.out.symm.trans hc1;injection h with h;injection h with _ h;omega);clear hc1 hwc))
     go_ret
     exact ⟨ret_int (by rw [HE.out]),BL4.out⟩
    ·rw [if_neg q2] at HGO
     rcases Nat.eq_zero_or_pos k with hk0 | hk0
     ·subst hk0
      have HE : Hid (Fd.checkEs [] es = Fd.checkEs (es.take (0 + 1)) (es.drop (0 + 1))):=HGO.out
      clear HGO
      go_upto_region 11 with fail
      go_cut [36] (fun b wx=>b = .bool false∧w4 = wx)
      case first =>
       go_wp2_with (first
        | (at_lookup;refine wpList_lookup_own_int _ rfl _ _ 89 rfl 9 3 .i64 slaw Tryz.underlying89 Tryz.underlying3 (zeroI _) Y _ D rfl ow _ _ rfl HKY.out ?_;intro c1 hc1 hwc;have hc3 : ¬ (1 : Int) < c1:=(by have h:=HAT.out.symm.trans hc1;injection h with h;injection h with _ h;omega);clear hc1 hwc))
       go_meet
       case rel=>exact ⟨rfl,rfl⟩
      case rest =>
      as_aux_lemma =>
      obtain ⟨rfl,hwx⟩:=hcut
      subst hwx
      go_upto_region 13 with fail
      go_cut [42] (fun b wx=>b = .bool false∧Hid (Below w4.heap.size w4 wx))
      case first =>
       go_quiet (fail)
       go_wp2_with fail
       go_meet
       case rel=>exact ⟨rfl,below_drewN (Below.refl _ _) _⟩
      case rest =>
      as_aux_lemma =>
      obtain ⟨rfl,HWX⟩:=hcut
      go_wp2_with fail
      go_roundw
      case rel=>exact ⟨1,by omega,by go_num,HE,MT4.out.frame HWX.out,HO2,BL4.out.trans (HWX.out.mono BL4.out.size),Blk.below XB4.out HWX.out (Blk.lt XB4.out)⟩
      case measure=>simp [intOf];omega
     ·obtain ⟨j,hkj⟩ : ∃ j,k = j + 1:=⟨k - 1,by omega⟩
      have hjl : j < es.length:=by omega
      have HLT : Hid ((es.take k).getLast? = some es[j]):=by show _ = _;rw [hkj];exact Fd.last_take es j hjl
      have HMJ : Hid (es[j] ∈ es.take k):=by show _ ∈ _;rw [hkj,Fd.take_snoc' es j hjl];exact List.mem_append_right _ (List.mem_singleton.2 rfl)
      have hk0' : (0 : Int) < (k : Int):=by omega
      have hj1 : (k : Int) - 1 = j:=by omega
      have hj2 : (j : Int) < es.length:=by omega
      have hj3 : (0 : Int)≤j:=by omega
      have hwr : IntKind.i64.wrap (j : Int) = (j : Int):=by rw [IntKind.wrap_i64];omega
      clear hkj
      obtain ⟨d0,d1,d2,d3,d4⟩:=HCL.out j hjl
      have hgl2:=HK.out g hKg
      rw [← BL4.out.cell (p:=⟨g,_,none⟩) hgl2] at d0 d1 d2 d3 d4
      rw [HLT.out] at HGO
      simp only at HGO
      have HPR:=Lib.hid (Fd.en_time (HO.out es[j] HMJ.out))
      have HXR:=Lib.hid (Fd.en_time HDX.out)
      obtain ⟨p,hp⟩ : ∃ p,es[j] = p:=⟨_,rfl⟩
      rw [hp] at d0 d1 d2 d3 d4 HGO HPR
      have HOD:=Lib.hid (fun W=>sh_Order p x W HPR.out.1 HPR.out.2 HXR.out.1 HXR.out.2)
      clear hp HLT HMJ
      obtain ⟨od,hod⟩ : ∃ o,Fd.ordE p x = o:=⟨_,rfl⟩
      rw [hod] at HOD HGO
      clear hod
      have D0:=Lib.hid (And.intro d0 (And.intro d1 (And.intro d2 (And.intro d3 d4))))
      clear d0 d1 d2 d3 d4
      go_upto_region 11 with fail
      go_cut [36] (fun b wx=>b = .bool false∧w4 = wx)
      case first =>
       go_wp2_with (first
        | (at_lookup;refine wpList_lookup_own_int _ rfl _ _ 89 rfl 9 3 .i64 slaw Tryz.underlying89 Tryz.underlying3 (zeroI _) Y _ D rfl ow _ _ rfl HKY.out ?_;intro c1 hc1 hwc;have hc3 : ¬ (1 : Int) < c1:=(by have h:=HAT.out.symm.trans hc1;injection h with h;injection h with _ h;omega);clear hc1 hwc))
       go_meet
       case rel=>exact ⟨rfl,rfl⟩
      case rest =>
      as_aux_lemma =>
      obtain ⟨rfl,hwx⟩:=hcut
      subst hwx
      obtain ⟨d0,d1,d2,d3,d4⟩:=D0.out
      have x0 : w4.cell? ⟨w.heap.size,0,none⟩ = some (.slice (some ⟨g,o,none⟩) es.length cape):=Blk.cell XB4.out 0
      have r1 : w4.cell? ⟨R,1,none⟩ = some (.string (st x.ti)):=Blk.cell RB4.out 1
      have r2 : w4.cell? ⟨R,2,none⟩ = some (.string (st x.li)):=Blk.cell RB4.out 2
      have r3 : w4.cell? ⟨R,3,none⟩ = some (.int .i64 x.at_):=Blk.cell RB4.out 3
      have r4 : w4.cell? ⟨R,4,none⟩ = some (.string (st x.ht)):=Blk.cell RB4.out 4
      go_wp2_with fail
      go_upto_region 13 with fail
      have HALL : Hid (∀ W,Below w4.heap.size w4 W→(W.cell? ⟨w.heap.size,0,none⟩ = some (.slice (some ⟨g,o,none⟩) es.length cape)∧(W.cell? ⟨g,o + j * 5,none⟩ = some (.string (st p.id))∧W.cell? ⟨g,o + j * 5 + 1,none⟩ = some (.string (st p.ti))∧W.cell? ⟨g,o + j * 5 + 2,none⟩ = some (.string (st p.li))∧W.cell? ⟨g,o + j * 5 + 3,none⟩ = some (.int .i64 p.at_)∧W.cell? ⟨g,o + j * 5 + 4,none⟩ = some (.string (st p.ht)))∧(W.cell? ⟨R,0,none⟩ = some (.string (st x.id))∧W.cell? ⟨R,1,none⟩ = some (.string (st x.ti))∧W.cell? ⟨R,2,none⟩ = some (.string (st x.li))∧W.cell? ⟨R,3,none⟩ = some (.int .i64 x.at_)∧W.cell? ⟨R,4,none⟩ = some (.string (st x.ht))))):=by
       intro W hW
       have hx:=Blk.lt XB4.out
       have hr:=Blk.lt RB4.out
       have hgg:=Nat.lt_of_lt_of_le hgl2 BL4.out.size
       refine ⟨(hW.cell (p:=⟨_,_,none⟩) hx).trans x0,⟨(hW.cell (p:=⟨_,_,none⟩) hgg).trans d0,(hW.cell (p:=⟨_,_,none⟩) hgg).trans d1,(hW.cell (p:=⟨_,_,none⟩) hgg).trans d2,(hW.cell (p:=⟨_,_,none⟩) hgg).trans d3,(hW.cell (p:=⟨_,_,none⟩) hgg).trans d4⟩,(hW.cell (p:=⟨_,_,none⟩) hr).trans r0,(hW.cell (p:=⟨_,_,none⟩) hr).trans r1,(hW.cell (p:=⟨_,_,none⟩) hr).trans r2,(hW.cell (p:=⟨_,_,none⟩) hr).trans r3,(hW.cell (p:=⟨_,_,none⟩) hr).trans r4⟩
      go_cut [42] (fun b wx=>b = .bool (decide (0≤od))∧Hid (Below w4.heap.size w4 wx))
      case first =>
       clear D0 ow
       go_region_held3 (fun w'=>w'.cell? ⟨w.heap.size,0,none⟩ = some (.slice (some ⟨g,o,none⟩) es.length cape)∧(w'.cell? ⟨g,o + j * 5,none⟩ = some (.string (st p.id))∧w'.cell? ⟨g,o + j * 5 + 1,none⟩ = some (.string (st p.ti))∧w'.cell? ⟨g,o + j * 5 + 2,none⟩ = some (.string (st p.li))∧w'.cell? ⟨g,o + j * 5 + 3,none⟩ = some (.int .i64 p.at_)∧w'.cell? ⟨g,o + j * 5 + 4,none⟩ = some (.string (st p.ht)))∧(w'.cell? ⟨R,0,none⟩ = some (.string (st x.id))∧w'.cell? ⟨R,1,none⟩ = some (.string (st x.ti))∧w'.cell? ⟨R,2,none⟩ = some (.string (st x.li))∧w'.cell? ⟨R,3,none⟩ = some (.int .i64 x.at_)∧w'.cell? ⟨R,4,none⟩ = some (.string (st x.ht)))) (first
        | exact HALL.out _ (Below.refl _ _).drew
        | exact HALL.out _ hB6) (first | (go_at_call 47;refine (HOD.out _).mono ?_;rintro e w6 ⟨rfl,hb6⟩;have hB6 : Below w4.heap.size w4 w6:=((Below.refl _ _).drew).trans hb6))
       all_goals
        go_wp2_with fail
        go_meet
        case rel=>exact ⟨rfl,hB6⟩
      case rest =>
      as_aux_lemma =>
      obtain ⟨rfl,HWX⟩:=hcut
      by_cases q5 : 0≤od
      ·have HE : Hid (c = 4):=by show _ = _;rw [HC.out,HGO.out,if_pos q5,if_pos (by decide)]
       clear HGO
       go_wp2_with fail
       go_ret
       exact ⟨ret_int (by rw [HE.out]),BL4.out.trans (HWX.out.mono BL4.out.size)⟩
      ·rw [if_neg q5] at HGO
       go_wp2_with fail
       go_roundw
       case rel=>exact ⟨k + 1,by omega,by go_num,HGO,MT4.out.frame HWX.out,HO2,BL4.out.trans (HWX.out.mono BL4.out.size),Blk.below XB4.out HWX.out (Blk.lt XB4.out)⟩
       case measure=>simp [intOf];omega
   ·rw [if_pos q1] at HGO
    have HE : Hid (c = d):=by show _ = _;rw [HC.out,HGO.out,if_pos q1]
    have e1 : (d == 0) = false:=beq_eq_false_iff_ne.2 q1
    clear HGO q1
    go_wp2_with fail
    go_ret
    exact ⟨ret_int (by rw [HE.out]),BL4.out⟩
  ·have hke : k = es.length:=by omega
   have HE : Hid (c = Fd.checkRd none rd):=by
    show _ = _
    rw [HC.out,HL.out,hke,List.drop_length,show Fd.checkEs (es.take es.length) [] = 0 from rfl,if_neg (by decide)]
   have x1 : wr.cell? ⟨w.heap.size,1,none⟩ = some (.slice aor rd.length capr):=Blk.cell XB.out 1
   have HRD:=Lib.hid (sh_read rd _ K wr (HVR.out.frame (fun b q=>⟨q,BL.out.block b (HK.out b q)⟩)))
   clear hke HL
   go_wp2_with fail
   refine HRD.out.mono ?_
   rintro e wx ⟨rfl,hwx⟩
   subst wx
   go_wp2_with fail
   go_ret
   exact ⟨ret_int (by rw [HE.out]),BL.out⟩
end Go.Proofs.YtjonkbdldebkiaaGreatDoor

/- Contracts of the program's report.Line and report.Page. Condition: ids of at most 1048576 letters; the library's variables are as they were laid. -/
namespace Fd
theorem page_step (T : Bs→Bs) (l : List En) (k : Nat) (h : k < l.length) : (l.take (k + 1)).flatMap (lineE T) = (l.take k).flatMap (lineE T)++lineE T l[k]:=by
 rw [List.take_succ_eq_append_getElem h,List.flatMap_append]
 simp
end Fd
namespace Go.Proofs.YtjonkbdldebkiaaGreatDoor
open Go.RowKit
theorem line_len (x : Fd.En) (h : Fd.checkEn x = 0) : (Fd.lineE Fd.toldP x).length≤33554432:=by
 obtain ⟨h1,h2,h3,h4,h5⟩:=en_right h
 have hp1:=Mk.put_len6 x.ti
 have hp2:=Mk.put_len6 x.li
 have hp3:=Mk.put_len6 (Fd.toldP x.ht)
 have hp4:=(Fd.told_len x.ht h3).2
 have hp5:=Fd.date_len x.at_
 rw [line_eq]
 simp only [List.length_append,List.length_cons,List.length_nil]
 split <;> split <;> simp only [List.length_append,List.length_cons,List.length_nil] <;> omega
theorem lines_len (l : List Fd.En) (h : ∀ x ∈ l,Fd.checkEn x = 0) : (l.flatMap (Fd.lineE Fd.toldP)).length≤l.length * 33554432:=by
 induction l with
 | nil=>simp
 | cons a t ih =>
  have h1:=line_len a (h a (List.mem_cons_self ..))
  have h2:=ih (fun x q=>h x (List.mem_cons_of_mem _ q))
  rw [List.flatMap_cons,List.length_append,List.length_cons]
  omega
set_option maxHeartbeats 8000000 in
set_option maxRecDepth 100000 in
theorem rp_Line (x : Fd.En) (w : World) (hg : Gl w) (hp : Pow w) :
  Calls Tryz.prog 18 #[.agg #[.string (st x.id),.string (st x.ti),.string (st x.li),.int .i64 x.at_,.string (st x.ht)]] w fun e w'=>e = .returned (.tuple #[.string (st (if Fd.checkEn x = 0 then Fd.lineE Fd.toldP x else [])),.int .i64 (Fd.checkEn x)])∧Below w.heap.size w w':=by
 have hal:=(Below.refl w.heap.size w).alloc (Nat.le_refl _) (.cells #[.string (st x.id),.string (st x.ti),.string (st x.li),.int .i64 x.at_,.string (st x.ht)] 44)
 have QB:=Lib.hid (Blk.new w 44 #[.string (st x.id),.string (st x.ti),.string (st x.li),.int .i64 x.at_,.string (st x.ht)])
 have BL1:=Lib.hid hal
 have HCK:=Lib.hid (fd_Check x (w.alloc (.cells #[.string (st x.id),.string (st x.ti),.string (st x.li),.int .i64 x.at_,.string (st x.ht)] 44)) (hg.alloc _))
 have HG:=Lib.hid hg
 have HP:=Lib.hid hp
 have hlt:=hg.lt
 have HLN:=Lib.hid (wr_line x)
 obtain ⟨d,hd⟩ : ∃ d,Fd.checkEn x = d:=⟨_,rfl⟩
 rw [hd] at HCK HLN ⊢
 clear hal hg hp hd
 go_enter Tryz.func18,Tryz.ntmps18
 go_wp2_with fail
 refine HCK.out.mono ?_
 rintro e w2 ⟨rfl,hb2⟩
 have BL2:=Lib.hid (BL1.out.trans (hb2.mono BL1.out.size))
 have QB2:=Lib.hid (Blk.below QB.out hb2 (Blk.lt QB.out))
 clear hb2 HCK BL1 QB
 by_cases q1 : d = 0
 ·have HLM:=Lib.hid (HLN.out q1)
  subst q1
  have hal3:=(Below.refl w2.heap.size w2).alloc (Nat.le_refl _) (.cells #[.pointer none,.slice none 0 0] 98)
  have BN : Hid (∀ N,BdI 98 N w2.heap.size (Lib.byteCells []) (w2.alloc (.cells #[.pointer none,.slice none 0 0] 98))):=fun N=>BdI.new _ N w2
  have BL3:=Lib.hid (BL2.out.trans (hal3.mono BL2.out.size))
  have QB3:=Lib.hid (Blk.below QB2.out hal3 (Blk.lt QB2.out))
  have hsz3 : w2.heap.size < (w2.alloc (.cells #[.pointer none,.slice none 0 0] 98)).heap.size:=by simp
  have hsz2:=BL2.out.size
  clear hal3 QB2 HLN BL2
  go_upto_region 5 with fail
  generalize w2.alloc (.cells #[.pointer none,.slice none 0 0] 98) = w3 at BN BL3 QB3 hsz3 ⊢
  generalize w2.heap.size = b at BN hsz3 hsz2 ⊢
  have r0 : w3.cell? ⟨w.heap.size,0,none⟩ = some (.string (st x.id)):=Blk.cell QB3.out 0
  have r1 : w3.cell? ⟨w.heap.size,1,none⟩ = some (.string (st x.ti)):=Blk.cell QB3.out 1
  have r2 : w3.cell? ⟨w.heap.size,2,none⟩ = some (.string (st x.li)):=Blk.cell QB3.out 2
  have r3 : w3.cell? ⟨w.heap.size,3,none⟩ = some (.int .i64 x.at_):=Blk.cell QB3.out 3
  have r4 : w3.cell? ⟨w.heap.size,4,none⟩ = some (.string (st x.ht)):=Blk.cell QB3.out 4
  go_wp2_with fail
  refine (HLM.out w3.heap.size b w.heap.size [] w3 hsz2 (by omega) (fun W hW=>⟨HG.out.below (BL3.out.trans hW) hlt,HP.out.below (BL3.out.trans hW)⟩) (Nat.le_refl _) (BN.out _) (by simp)).mono ?_
  rintro e w4 ⟨rfl,g1,g2⟩
  have BD4:=Lib.hid g1
  have BL4:=Lib.hid (BL3.out.trans (g2.below hsz2 (by omega)))
  have hsz4:=g2.size
  clear g1 g2 r0 r1 r2 r3 r4 BN QB3 BL3
  have HST:=Lib.hid (wb_String 98 w3.heap.size b _ w4 BD4.out hsz4)
  go_wp2_with fail
  refine HST.out.mono ?_
  rintro e w5 ⟨rfl,hb5⟩
  have BL5:=Lib.hid (BL4.out.trans (hb5.mono (by omega)))
  clear hb5 HST
  go_wp2_with fail
  go_ret2
  exact ⟨by first | rfl | (rw [if_pos rfl];rfl),BL5.out⟩
 ·have e1 : (d == 0) = false:=beq_eq_false_iff_ne.2 q1
  clear HLN
  go_wp2_with fail
  go_ret2
  exact ⟨by first | rfl | (rw [if_neg q1];rfl),BL2.out⟩
set_option maxHeartbeats 16000000 in
set_option maxRecDepth 100000 in
theorem rp_Page (s : Fd.Sh) (ve vr : Value) (K : Nat→Prop) (w : World) (hg : Gl w) (hp : Pow w) (hve : EntsV w K ve s.es) (hvr : StrsV w K vr s.rd) (hK : ∀ b,K b→b < w.heap.size) (hid : ∀ x ∈ s.es,x.id.length≤1048576) :
  Calls Tryz.prog 15 #[.agg #[ve,vr]] w fun e w'=>e = .returned (.tuple #[.string (st (if Fd.checkSh s = 0 then Fd.pageS Fd.toldP s else [])),.int .i64 (Fd.checkSh s)])∧Below w.heap.size w w':=by
 obtain ⟨aoe,cape,he1,_,_,hem⟩:=id hve
 obtain ⟨aor,capr,hr1,_⟩:=id hvr
 subst he1;subst hr1
 obtain ⟨g,o,cap,hKg,hev,hcl⟩:=hve.at_
 have hal:=(Below.refl w.heap.size w).alloc (Nat.le_refl _) (.cells #[.slice aoe s.es.length cape,.slice aor s.rd.length capr] 26)
 have XB:=Lib.hid (Blk.new w 26 #[.slice aoe s.es.length cape,.slice aor s.rd.length capr])
 have BL1:=Lib.hid hal
 have HCK:=Lib.hid (sh_Check s _ _ K _ (hg.alloc (.cells #[.slice aoe s.es.length cape,.slice aor s.rd.length capr] 26)) (hve.below hK hal) (hvr.frame (fun b q=>⟨q,hal.block b (hK b q)⟩)) (fun b q=>Nat.lt_of_lt_of_le (hK b q) hal.size) hid)
 have HCL:=Lib.hid hcl
 have HEV:=Lib.hid hev
 have HKG:=Lib.hid hKg
 have HK:=Lib.hid hK
 have HG:=Lib.hid hg
 have HP:=Lib.hid hp
 have hlt:=hg.lt
 have hel : s.es.length≤9223372036854775807:=by unfold maxLen at hem;omega
 have HSH:=Lib.hid (Fd.checkSh_iff s).1
 have HPG : Hid (Fd.pageS Fd.toldP s = [60,117,108,62]++s.es.flatMap (Fd.lineE Fd.toldP)++[60,47,117,108,62]):=rfl
 generalize Fd.pageS Fd.toldP s = pg at HPG ⊢
 obtain ⟨d,hd⟩ : ∃ d,Fd.checkSh s = d:=⟨_,rfl⟩
 rw [hd] at HCK HSH ⊢
 clear hal hg hp hd hve hvr hK hid hcl hev hKg hem
 obtain ⟨es,rd⟩:=s
 simp only at HCK HCL HEV HKG HPG XB BL1 hel ⊢
 go_enter Tryz.func15,Tryz.ntmps15
 go_wp2_with fail
 refine HCK.out.mono ?_
 rintro e w2 ⟨rfl,hb2⟩
 have BL2:=Lib.hid (BL1.out.trans (hb2.mono BL1.out.size))
 have XB2:=Lib.hid (Blk.below XB.out hb2 (Blk.lt XB.out))
 clear hb2 HCK BL1 XB
 by_cases q1 : d = 0
 ·obtain ⟨hs1,_,hs2,_⟩:=HSH.out q1
  have HR : Hid (∀ x ∈ es,Fd.checkEn x = 0):=hs2.1
  have he20 : es.length≤20:=hs1
  subst q1
  have hal3:=(Below.refl w2.heap.size w2).alloc (Nat.le_refl _) (.cells #[.pointer none,.slice none 0 0] 98)
  have BN : Hid (∀ N,BdI 98 N w2.heap.size (Lib.byteCells []) (w2.alloc (.cells #[.pointer none,.slice none 0 0] 98))):=fun N=>BdI.new _ N w2
  have BL3:=Lib.hid (BL2.out.trans (hal3.mono BL2.out.size))
  have XB3:=Lib.hid (Blk.below XB2.out hal3 (Blk.lt XB2.out))
  have hsz3 : w2.heap.size < (w2.alloc (.cells #[.pointer none,.slice none 0 0] 98)).heap.size:=by simp
  have hsz2:=BL2.out.size
  have hXb : w.heap.size < w2.heap.size:=Blk.lt XB2.out
  clear hal3 XB2 HSH BL2 hs1 hs2
  go_upto_region 5 with fail
  generalize w2.alloc (.cells #[.pointer none,.slice none 0 0] 98) = w3 at BN BL3 XB3 hsz3 ⊢
  generalize w2.heap.size = b at BN hsz3 hsz2 hXb ⊢
  have BD3:=Lib.hid (BN.out w3.heap.size)
  clear BN
  go_wp2_with fail
  refine (wr_put_new [[60,117,108,62]] w3.heap.size b [] w3 hsz3 (Nat.le_refl _) BD3.out (by decide) (by decide)).mono ?_
  rintro e w4 ⟨rfl,g1,g2⟩
  have BD4 : Hid (BdI 98 w3.heap.size b (Lib.byteCells [60,117,108,62]) w4):=g1
  have BS4:=Lib.hid g2
  clear g1 g2 BD3
  have XB4:=Lib.hid (BS4.out.blk XB3.out (by omega) (by decide))
  have x0 : w4.cell? ⟨w.heap.size,0,none⟩ = some (.slice aoe es.length cape):=Blk.cell XB4.out 0
  go_wp2_with fail
  clear x0
  go_loopw [21] (fun i wr=>∃ k : Nat,k≤es.length∧i = .int .i64 k∧Hid (BdI 98 w3.heap.size b (Lib.byteCells ([60,117,108,62]++(es.take k).flatMap (Fd.lineE Fd.toldP))) wr)∧Hid (Bes w3.heap.size b w3 wr)) (fun i _=>es.length - (intOf i).toNat)
  case atStart=>exact ⟨0,Nat.zero_le _,rfl,by rw [List.take_zero];exact BD4,BS4⟩
  case round =>
   clear BD4 BS4 XB3 XB4
   obtain ⟨k,hk,rfl,BD,BS⟩:=hrel
   have BLr:=Lib.hid (BL3.out.trans (BS.out.below hsz2 (by omega)))
   have hszr:=BS.out.size
   have hlen : ([60,117,108,62]++(es.take k).flatMap (Fd.lineE Fd.toldP)).length≤671088644:=by
    have h1:=lines_len (es.take k) (fun x q=>HR.out x (List.mem_of_mem_take q))
    have h2 : (es.take k).length≤20:=by rw [List.length_take];omega
    simp only [List.length_append,List.length_cons,List.length_nil]
    omega
   by_cases hlt2 : k < es.length
   ·obtain ⟨hv1,hKg⟩ : Value.slice aoe es.length cape = .slice (some ⟨g,o,none⟩) es.length cap∧K g:=by
     rcases HEV.out with q | ⟨ao,_,q⟩
     ·exact ⟨q,HKG.out (by intro e;rw [e] at hlt2;exact absurd hlt2 (Nat.not_lt_zero _))⟩
     ·rw [q] at hlt2;exact absurd hlt2 (Nat.not_lt_zero _)
    injection hv1 with e1 _ e3
    subst e1;subst e3
    obtain ⟨c0,c1,c2,c3,c4⟩:=HCL.out k hlt2
    have hgl2:=HK.out g hKg
    rw [← BLr.out.cell (p:=⟨g,_,none⟩) hgl2] at c0 c1 c2 c3 c4
    have HX:=Lib.hid (HR.out es[k] (List.getElem_mem hlt2))
    have HST:=Lib.hid (Fd.page_step Fd.toldP es k hlt2)
    obtain ⟨x,hx⟩ : ∃ x,es[k] = x:=⟨_,rfl⟩
    rw [hx] at c0 c1 c2 c3 c4 HX HST
    have hal:=(Below.refl wr.heap.size wr).alloc (Nat.le_refl _) (.cells #[.string (st x.id),.string (st x.ti),.string (st x.li),.int .i64 x.at_,.string (st x.ht)] 44)
    have RB:=Lib.hid (Blk.new wr 44 #[.string (st x.id),.string (st x.ti),.string (st x.li),.int .i64 x.at_,.string (st x.ht)])
    have BD5:=Lib.hid (BD.out.below hal)
    have BS5:=Lib.hid (BS.out.trans (Bes.of hal hszr))
    have BL5:=Lib.hid (BLr.out.trans (hal.mono BLr.out.size))
    have hsz5:=Nat.le_trans hszr hal.size
    clear hal hx BD BS BLr
    go_upto_region 9 with fail
    clear c0 c1 c2 c3 c4
    generalize wr.alloc (.cells #[.string (st x.id),.string (st x.ti),.string (st x.li),.int .i64 x.at_,.string (st x.ht)] 44) = w5 at RB BD5 BS5 BL5 hsz5 ⊢
    generalize wr.heap.size = R at RB hszr ⊢
    have r0 : w5.cell? ⟨R,0,none⟩ = some (.string (st x.id)):=Blk.cell RB.out 0
    have r1 : w5.cell? ⟨R,1,none⟩ = some (.string (st x.ti)):=Blk.cell RB.out 1
    have r2 : w5.cell? ⟨R,2,none⟩ = some (.string (st x.li)):=Blk.cell RB.out 2
    have r3 : w5.cell? ⟨R,3,none⟩ = some (.int .i64 x.at_):=Blk.cell RB.out 3
    have r4 : w5.cell? ⟨R,4,none⟩ = some (.string (st x.ht)):=Blk.cell RB.out 4
    go_wp2_with fail
    refine (wr_line x HX.out w3.heap.size b w.heap.size _ w5 hsz2 (by omega) (fun W hW=>⟨HG.out.below (BL5.out.trans hW) hlt,HP.out.below (BL5.out.trans hW)⟩) hsz5 BD5.out (by omega)).mono ?_
    rintro e w6 ⟨rfl,g1,g2⟩
    have BD6 : Hid (BdI 98 w3.heap.size b (Lib.byteCells ([60,117,108,62]++(es.take (k + 1)).flatMap (Fd.lineE Fd.toldP))) w6):=by
     show BdI _ _ _ _ _
     rw [HST.out,← List.append_assoc];exact g1
    have BS6:=Lib.hid (BS5.out.trans g2)
    clear g1 g2 r0 r1 r2 r3 r4
    go_wp2_with fail
    go_roundw
    case rel=>exact ⟨k + 1,by omega,by go_num,BD6,BS6⟩
    case measure=>simp [intOf];omega
   ·have hke : k = es.length:=by omega
    have HE : Hid ([60,117,108,62]++(es.take k).flatMap (Fd.lineE Fd.toldP)++[60,47,117,108,62] = pg):=by show _ = _;rw [hke,List.take_length,HPG.out]
    generalize [60,117,108,62]++(es.take k).flatMap (Fd.lineE Fd.toldP) = l1 at BD hlen HE
    clear hke
    go_wp2_with fail
    refine (wr_put_new [[60,47,117,108,62]] w3.heap.size b l1 wr BD.out.lt hszr BD.out (by decide) (by simp only [List.flatten_cons,List.flatten_nil,List.length_append,List.length_cons,List.length_nil];omega)).mono ?_
    rintro e w6 ⟨rfl,g1,g2⟩
    have BD6 : Hid (BdI 98 w3.heap.size b (Lib.byteCells pg) w6):=by rw [← HE.out];exact g1
    have BL6:=Lib.hid (BLr.out.trans (g2.below hsz2 (by omega)))
    have hsz6:=Nat.le_trans hszr g2.size
    clear g1 g2 BD
    have HST:=Lib.hid (wb_String 98 w3.heap.size b _ w6 BD6.out hsz6)
    go_wp2_with fail
    refine HST.out.mono ?_
    rintro e w7 ⟨rfl,hb7⟩
    have BL7:=Lib.hid (BL6.out.trans (hb7.mono (by omega)))
    clear hb7 HST
    go_wp2_with fail
    go_ret2
    exact ⟨by first | rfl | (rw [if_pos rfl];rfl),BL7.out⟩
 ·have e1 : (d == 0) = false:=beq_eq_false_iff_ne.2 q1
  clear HSH
  go_wp2_with fail
  go_ret2
  exact ⟨by first | rfl | (rw [if_neg q1];rfl),BL2.out⟩
end Go.Proofs.YtjonkbdldebkiaaGreatDoor

/- Contract of the law's page. Condition: at most 33554432 nodes, attributes and letters. -/
namespace Mk
/-- the page of the law. -/
def page : Fo:=.node [112] [] [] (.node [] [] [97] .nil (.node [98,114] [] [] .nil .nil)) (.node [117,108] [] [] (.node [108,105] [] [] (.node [] [] [98] .nil .nil) (.node [108,105] [] [] (.node [] [] [99] .nil .nil) .nil)) .nil)
end Mk
namespace Go.Proofs.YtjonkbdldebkiaaGreatDoor
open Go.RowKit
theorem FoV.of_blk {w : World} {g cap : Nat} {K : Nat→Prop} {f : Mk.Fo} {cs : List Value} (hb : Blk w g 53 cs.toArray) (hK : K g) (hc : FCells w K f cs) (hl : f.len≤maxLen) : FoV w K (.slice (some ⟨g,0,none⟩) f.len cap) f :=
 ⟨_,cap,cs,rfl,.inr ⟨g,0,rfl,hK,fun i v q=>by rw [Nat.zero_add];exact (Blk.cell hb i).trans (by simpa using q)⟩,hc,hl⟩
def nodeCells (n t : List UInt8) (vk : Value) : List Value:=[.string (st n),.slice none 0 0,.string (st t),vk]
theorem FCells.one {w : World} {K : Nat→Prop} {n t : List UInt8} {k r : Mk.Fo} {ao : Option Addr} {cap : Nat} {ys : List Value} (hk : FoV w K (.slice ao k.len cap) k) (hr : FCells w K r ys) : FCells w K (.node n [] t k r) (nodeCells n t (.slice ao k.len cap)++ys):=by
 obtain ⟨ao',cap',xs,h1,h2,h3,h4⟩:=hk
 injection h1 with e1 e2 e3
 subst e1
 exact ⟨.slice none 0 0,ao,cap,xs,ys,rfl,AtsV.nil _ _,h2,h4,h3,hr⟩
theorem FoV.nil0 (w : World) (K : Nat→Prop) : FoV w K (.slice none (Mk.Fo.nil).len 0) .nil:=⟨none,0,[],rfl,.inl rfl,rfl,Nat.zero_le _⟩
theorem FCells.nil0 (w : World) (K : Nat→Prop) : FCells w K .nil []:=rfl
theorem page_mem {w : World} {s : Nat} {K : Nat→Prop} (hK : ∀ i,i < 5→K (s + i))
  (h0 : Blk w s 53 (nodeCells [] [97] (.slice none 0 0)++(nodeCells [98,114] [] (.slice none 0 0)++[])).toArray)
  (h1 : Blk w (s + 1) 53 (nodeCells [] [98] (.slice none 0 0)++[]).toArray)
  (h2 : Blk w (s + 2) 53 (nodeCells [] [99] (.slice none 0 0)++[]).toArray)
  (h3 : Blk w (s + 3) 53 (nodeCells [108,105] [] (.slice (some ⟨s + 1,0,none⟩) 1 1)++(nodeCells [108,105] [] (.slice (some ⟨s + 2,0,none⟩) 1 1)++[])).toArray)
  (h4 : Blk w (s + 4) 53 (nodeCells [112] [] (.slice (some ⟨s,0,none⟩) 2 2)++(nodeCells [117,108] [] (.slice (some ⟨s + 3,0,none⟩) 2 2)++[])).toArray) :
  FoV w K (.slice (some ⟨s + 4,0,none⟩) 2 2) Mk.page:=by
 have m1 : 1≤maxLen:=by decide
 have m2 : 2≤maxLen:=by decide
 have f0 : FoV w K (.slice (some ⟨s,0,none⟩) 2 2) (.node [] [] [97] .nil (.node [98,114] [] [] .nil .nil)):=FoV.of_blk h0 (hK 0 (by decide)) (FCells.one (k:=.nil) (FoV.nil0 w K) (FCells.one (k:=.nil) (FoV.nil0 w K) (FCells.nil0 w K))) m2
 have f1 : FoV w K (.slice (some ⟨s + 1,0,none⟩) 1 1) (.node [] [] [98] .nil .nil):=FoV.of_blk h1 (hK 1 (by decide)) (FCells.one (k:=.nil) (FoV.nil0 w K) (FCells.nil0 w K)) m1
 have f2 : FoV w K (.slice (some ⟨s + 2,0,none⟩) 1 1) (.node [] [] [99] .nil .nil):=FoV.of_blk h2 (hK 2 (by decide)) (FCells.one (k:=.nil) (FoV.nil0 w K) (FCells.nil0 w K)) m1
 have f3 : FoV w K (.slice (some ⟨s + 3,0,none⟩) 2 2) (.node [108,105] [] [] (.node [] [] [98] .nil .nil) (.node [108,105] [] [] (.node [] [] [99] .nil .nil) .nil)):=FoV.of_blk h3 (hK 3 (by decide)) (FCells.one (k:=.node [] [] [98] .nil .nil) f1 (FCells.one (k:=.node [] [] [99] .nil .nil) f2 (FCells.nil0 w K))) m2
 exact FoV.of_blk h4 (hK 4 (by decide)) (FCells.one (k:=.node [] [] [97] .nil (.node [98,114] [] [] .nil .nil)) f0 (FCells.one (k:=.node [108,105] [] [] (.node [] [] [98] .nil .nil) (.node [108,105] [] [] (.node [] [] [99] .nil .nil) .nil)) f3 (FCells.nil0 w K))) m2
set_option maxHeartbeats 2000000 in
set_option maxRecDepth 100000 in
theorem lw_page (w : World) :
  Calls Tryz.prog 53 #[] w fun e w'=>∃ v,e = .returned v∧FoV w' (fun b=>w.heap.size≤b∧b < w'.heap.size) v Mk.page∧Below w.heap.size w w':=by
 go_enter Tryz.func53,Tryz.ntmps53
 go_wp2_with fail
 go_ret
 refine ⟨_,rfl,?_,?_⟩
 ·have b0:=Blk.new w 53 (nodeCells [] [97] (.slice none 0 0)++(nodeCells [98,114] [] (.slice none 0 0)++[])).toArray
  have b1:=Blk.new (w.alloc (.cells (nodeCells [] [97] (.slice none 0 0)++(nodeCells [98,114] [] (.slice none 0 0)++[])).toArray 53)) 53 (nodeCells [] [98] (.slice none 0 0)++[]).toArray
  have b2:=Blk.new ((w.alloc (.cells (nodeCells [] [97] (.slice none 0 0)++(nodeCells [98,114] [] (.slice none 0 0)++[])).toArray 53)).alloc (.cells (nodeCells [] [98] (.slice none 0 0)++[]).toArray 53)) 53 (nodeCells [] [99] (.slice none 0 0)++[]).toArray
  have b3:=Blk.new (((w.alloc (.cells (nodeCells [] [97] (.slice none 0 0)++(nodeCells [98,114] [] (.slice none 0 0)++[])).toArray 53)).alloc (.cells (nodeCells [] [98] (.slice none 0 0)++[]).toArray 53)).alloc (.cells (nodeCells [] [99] (.slice none 0 0)++[]).toArray 53)) 53 (nodeCells [108,105] [] (.slice (some ⟨w.heap.size + 1,0,none⟩) 1 1)++(nodeCells [108,105] [] (.slice (some ⟨w.heap.size + 2,0,none⟩) 1 1)++[])).toArray
  have b4:=Blk.new ((((w.alloc (.cells (nodeCells [] [97] (.slice none 0 0)++(nodeCells [98,114] [] (.slice none 0 0)++[])).toArray 53)).alloc (.cells (nodeCells [] [98] (.slice none 0 0)++[]).toArray 53)).alloc (.cells (nodeCells [] [99] (.slice none 0 0)++[]).toArray 53)).alloc (.cells (nodeCells [108,105] [] (.slice (some ⟨w.heap.size + 1,0,none⟩) 1 1)++(nodeCells [108,105] [] (.slice (some ⟨w.heap.size + 2,0,none⟩) 1 1)++[])).toArray 53)) 53 (nodeCells [112] [] (.slice (some ⟨w.heap.size,0,none⟩) 2 2)++(nodeCells [117,108] [] (.slice (some ⟨w.heap.size + 3,0,none⟩) 2 2)++[])).toArray
  simp only [World.size_alloc] at b1 b2 b3 b4
  exact page_mem (fun i hi=>⟨by omega,by simp only [World.size_alloc];omega⟩) (Blk.alloc (Blk.alloc (Blk.alloc (Blk.alloc b0 _) _) _) _) (Blk.alloc (Blk.alloc (Blk.alloc b1 _) _) _) (Blk.alloc (Blk.alloc b2 _) _) (Blk.alloc b3 _) b4
 ·exact (((((Below.refl _ w).alloc (Nat.le_refl _) _).alloc (by simp) _).alloc (by simp;omega) _).alloc (by simp;omega) _).alloc (by simp;omega) _
end Go.Proofs.YtjonkbdldebkiaaGreatDoor
