/- Contract of the program's shelf.Check: what is wrong with a shelf. Condition: ids of at most 1048576 letters. -/
import Derived.Test.YtjonkbdldebkiaaGreatDoorYWeB
import Derived.Maps.OwnOps
import Derived.Maps.Views
import Derived.Deep.RegionHeld3
import Derived.Test.YtjonkbdldebkiaaGreatDoorYWeA
import Derived.Test.YtjonkbdldebkiaaGreatDoorYMkTok5
set_option linter.unusedVariables false
set_option linter.unusedSimpArgs false
set_option maxHeartbeats 8000000
set_option maxRecDepth 100000
namespace Fd
def z94 (id:Bs) (l:List En):Nat:=(l.filter fun y=>y.id == id).length
theorem q44 (id:Bs) (l:List En) (x:En):z94 id (l++[x])=z94 id l + if x.id=id then 1 else 0:=by
 unfold z94;rw[List.filter_append,List.length_append]
 by_cases h:x.id=id
 ·rw[List.filter_cons_of_pos (by simpa using h),if_pos h];rfl
 ·rw[List.filter_cons_of_neg (by simpa using h),if_neg h];rfl
theorem cnt_le (id:Bs) (l:List En):z94 id l≤l.length:=List.length_filter_le ..
theorem cnt_any (id:Bs) (l:List En):(l.any fun y=>y.id == id)=decide (1≤z94 id l):=by
 rw[Bool.eq_iff_iff,List.any_eq_true,decide_eq_true_iff];unfold z94;constructor
 ·rintro ⟨y,h1,h2⟩
  exact List.length_pos_of_mem (List.mem_filter.2 ⟨h1,h2⟩)
 ·intro h
  obtain⟨y,hy⟩:=List.exists_mem_of_length_pos h;obtain⟨h1,h2⟩:=List.mem_filter.1 hy;exact⟨y,h1,h2⟩
theorem j1g (l:List En) (k:Nat) (h:k < l.length):z0r (l.take k) (l.drop k)=if z03 l[k] ≠ 0 then z03 l[k] else if 1≤z94 l[k].id (l.take k) then 6 else match (l.take k).getLast? with
  | none=>z0r (l.take (k + 1)) (l.drop (k + 1))
  | some y=>if 0≤ordE y l[k] then 4 else z0r (l.take (k + 1)) (l.drop (k + 1)):=by
 rw[List.drop_eq_getElem_cons h,z0r,cnt_any,List.take_succ_eq_append_getElem h]
 by_cases q:1≤z94 l[k].id (l.take k)
 ·rw[decide_eq_true q,if_pos rfl,if_pos q]
 ·simp only [decide_eq_false q,Bool.false_eq_true,if_false,if_neg q]
  cases (l.take k).getLast? <;> rfl
theorem take_snoc' (l:List En) (j:Nat) (h:j < l.length):l.take (j + 1)=l.take j++[l[j]]:=List.take_succ_eq_append_getElem h
theorem q4h {x:En} (h:z03 x=0):0≤x.at_∧x.at_≤4102444799:=by
 unfold z03 at h
 by_cases q1:x.id=[]
 ·rw[if_pos q1] at h;cases h
 rw[if_neg q1] at h
 by_cases q2:60 < x.id.length∨3000 < x.ti.length∨3000 < x.li.length∨3000 < x.ht.length
 ·rw[if_pos q2] at h;cases h
 rw[if_neg q2] at h
 by_cases q3:x.at_ < 0∨4102444799 < x.at_
 ·rw[if_pos q3] at h;cases h
 omega
end Fd
namespace Go.Proofs.YtjonkbdldebkiaaGreatDoor
open Go.Proofs.Tryz Go.RowKit Go.WideMaps Go.Maps
theorem slaw:Keyed prog 9:=string_keyed underlying9
theorem zeroI (w:World):(zeroValue 3).run prog w=.ok (.int .i64 0) w:=by kernel_rfl
def Met (w:World) (Y:Nat) (l:List Fd.En):Prop:=∃ D:DataW Unit,w.ownsMap prog 9 (plainElem prog 3) Y l.length D∧IsMap D∧∀ id:List UInt8,D.atKey (.string id) (.lit (.int .i64 0))=.lit (.int .i64 (Fd.z94 id l:Nat))
theorem Met.frame {w w':World} {Y:Nat} {l:List Fd.En} (h:Met w Y l) (hb:Below w.heap.size w w'):Met w' Y l:=by
 obtain⟨D,h1,h2,h3⟩:=h;exact⟨D,h1.kept (row:=none) ⟨hb.os,hb.tape,hb.output,hb.size,fun k hk _=>hb.block k hk⟩ (by simp),h2,h3⟩
theorem Met.lt {w:World} {Y:Nat} {l:List Fd.En} (h:Met w Y l):Y < w.heap.size:=by
 obtain⟨D,h1,_⟩:=h;exact h1.lt
theorem Met.new (w:World):Met (w.alloc (.map #[] 0)) w.heap.size [] :=
 ⟨.map [],World.ownsMap_made _ _ _ _,isMap_empty,fun id=>rfl⟩
theorem z4h (s:Fd.Sh) (ve vr:Value) (K:Nat→Prop) (w:World) (hg:Gl w) (hve:z18 w K ve s.es) (hvr:z0n w K vr s.rd) (hK:∀ b,K b→b < w.heap.size) (hid:∀ x ∈ s.es,x.id.length≤1048576) :
  Calls prog 13 #[.agg #[ve,vr]] w fun e w'=>e=.returned (.int .i64 (Fd.z0e s))∧Below w.heap.size w w':=by
 have hst:∀ l:List UInt8,(st l).toList=l:=fun l=>Lib.toList_data _
 have HC:Hid (Fd.z0e s=if 20 < s.es.length∨40 < s.rd.length then 2 else if Fd.z0r [] s.es ≠ 0 then Fd.z0r [] s.es else Fd.z08 none s.rd):=rfl;generalize Fd.z0e s=c at HC ⊢;obtain⟨es,rd⟩:=s;simp only at HC hve hvr hid ⊢;obtain⟨aoe,cape,he1,_,hec,hem⟩:=id hve;obtain⟨aor,capr,hr1,hrc,_,hrm⟩:=id hvr;subst he1;subst hr1;obtain⟨g,o,cap,hKg,hev,hcl⟩:=hve.at_
 have HCL:=Ld hcl;have HEV:=Ld hev;have HKG:=Ld hKg;have HK:=Ld hK;have HVR:=Ld hvr;have HID:=Ld hid;have HG:=Ld hg;have hel:es.length≤9223372036854775807:=by unfold maxLen at hem;omega
 have hrl:rd.length≤9223372036854775807:=by unfold maxLen at hrm;omega
 have hal:=(Below.refl w.heap.size w).alloc (Lr) (.cells #[.slice aoe es.length cape,.slice aor rd.length capr] 26);have HAL:=Ld hal;have XB:=Ld (Blk.new w 26 #[.slice aoe es.length cape,.slice aor rd.length capr]);have hmm:=@run_makeMap prog;have hgl:=hg.lt;clear hal hve hvr hK hid hg hcl hev hKg hec hrc hem hrm
 by_cases h1:20 < es.length
 ·have HE:Hid (c=2):=by show _=_;rw[HC.out,if_pos (.inl h1)]
  clear HC;go_enter func13,ntmps13;go_wp2_with fail;go_ret;exact⟨V5 (by rw[HE.out]),HAL.out⟩
 by_cases h2:40 < rd.length
 ·have HE:Hid (c=2):=by show _=_;rw[HC.out,if_pos (.inr h2)]
  clear HC;go_enter func13,ntmps13;go_wp2_with fail;go_ret;exact⟨V5 (by rw[HE.out]),HAL.out⟩
 rw[if_neg (by rintro (q | q) <;> omega)] at HC;go_enter func13,ntmps13;go_upto_region 4 with fail;have MT0:=Met.new (w.alloc (.cells #[.slice aoe es.length cape,.slice aor rd.length capr] 26));rw[World.size_alloc] at MT0;have MT:=Ld MT0;clear MT0;have XB1:=Ld (Blk.alloc XB.out (.map #[] 0));have BL1:=Ld (HAL.out.alloc HAL.out.size (.map #[] 0));have hXY:w.heap.size < w.heap.size + 1:=Nat.lt_succ_self _;clear XB HAL hmm;generalize w.heap.size + 1=Y at MT hXY ⊢;generalize (w.alloc (.cells #[.slice aoe es.length cape,.slice aor rd.length capr] 26)).alloc (.map #[] 0)=w1 at MT XB1 BL1 ⊢;have x0:w1.cell? ⟨w.heap.size,0,none⟩=some (.slice aoe es.length cape):=Blk.cell XB1.out 0;go_wp2_with fail;clear x0
 go_loopw [21] (fun i wr=>∃ k:Nat,k≤es.length∧i=.int .i64 k∧Hid (Fd.z0r [] es=Fd.z0r (es.take k) (es.drop k))∧Hid (Met wr Y (es.take k))∧Hid (∀ x ∈ es.take k,Fd.z03 x=0)∧Hid (Below w.heap.size w wr)∧Hid (Blk wr w.heap.size 26 #[.slice aoe es.length cape,.slice aor rd.length capr])) (fun i _=>es.length - (intOf i).toNat)
 case atStart=>exact⟨0,Nat.zero_le _,rfl,rfl,MT,fun x h=>by simp at h,BL1,XB1⟩
 case round =>
  clear MT XB1 BL1;obtain⟨k,hk,rfl,HL,MT,HO,BL,XB⟩:=hrel;have hsz:=BL.out.size
  by_cases hlt:k < es.length
  ·obtain⟨hv1,hKg⟩:Value.slice aoe es.length cape=.slice (some ⟨g,o,none⟩) es.length cap∧K g:=by
    rcases HEV.out with q | ⟨ao,_,q⟩
    ·exact⟨q,HKG.out (by intro e;rw[e] at hlt;exact absurd hlt (Nat.not_lt_zero _))⟩
    ·rw[q] at hlt;exact absurd hlt (Nat.not_lt_zero _)
   injection hv1 with e1 _ e3;subst e1;subst e3;obtain⟨c0,c1,c2,c3,c4⟩:=HCL.out k hlt;have hgl2:=HK.out g hKg;rw[← BL.out.cell (p:=⟨g,_,none⟩) hgl2] at c0 c1 c2 c3 c4;have HGO:Hid (Fd.z0r [] es=_):=HL.out.trans (Fd.j1g es k hlt);have HXM:=Ld (List.getElem_mem hlt);have HTK:Hid (es.take (k + 1)=es.take k++[es[k]]):=List.take_succ_eq_append_getElem hlt;obtain⟨x,hx⟩:∃ x,es[k]=x:=⟨_,rfl⟩;rw[hx] at c0 c1 c2 c3 c4 HGO HXM HTK;have hidl:=HID.out x HXM.out;have hal:=(Below.refl wr.heap.size wr).alloc (Lr) (.cells #[.string (st x.id),.string (st x.ti),.string (st x.li),.int .i64 x.at_,.string (st x.ht)] 44);have RB:=Ld (Blk.new wr 44 #[.string (st x.id),.string (st x.ti),.string (st x.li),.int .i64 x.at_,.string (st x.ht)]);have MT1:=Ld (MT.out.frame hal);have BL1:=Ld (BL.out.trans (hal.mono hsz));have XB1:=Ld (Blk.below XB.out hal (Blk.lt XB.out));have HXE:=Ld hx;have hYR:Y < wr.heap.size:=MT.out.lt;clear hal hx HL MT BL XB HXM;go_upto_region 7 with fail;clear c0 c1 c2 c3 c4;generalize wr.alloc (.cells #[.string (st x.id),.string (st x.ti),.string (st x.li),.int .i64 x.at_,.string (st x.ht)] 44)=w2 at RB MT1 BL1 XB1 ⊢;generalize wr.heap.size=R at RB hsz hYR ⊢;have r0:w2.cell? ⟨R,0,none⟩=some (.string (st x.id)):=Blk.cell RB.out 0;have hk20:(es.take k).length≤20:=by rw[List.length_take];omega
   have hkey:keyOf prog 9 (.string (st x.id))=some (.string x.id):=keyOf_string_mk underlying9 (by rw[Z4];unfold maxLen;omega);have HKY:=Ld hkey;obtain⟨D,ow,hD,hat⟩:=MT1.out;have HAT:=Ld hat
   have HD:=Ld hD;clear hat hD hkey
   go_cut [] (fun wx=>Hid (Met wx Y (es.take (k + 1)))∧Hid (Below w.heap.size w wx)∧Hid (Blk wx w.heap.size 26 #[.slice (some ⟨g,o,none⟩) es.length cape,.slice aor rd.length capr])∧Hid (Blk wx R 44 #[.string (st x.id),.string (st x.ti),.string (st x.li),.int .i64 x.at_,.string (st x.ht)]))
   case first =>
    go_wp2_with (first
     | (at_lookup;refine wpList_lookup_own_int _ rfl _ _ 89 rfl 9 3 .i64 slaw underlying89 underlying3 (zeroI _) Y _ D rfl ow _ _ rfl HKY.out ?_;intro c1 hc1 hwc;have HC1:=Ld hc1;clear hc1 hwc)
     | (at_mapUpdate;refine wpList_mapUpdate_own _ rfl _ _ _ 89 rfl 9 3 slaw underlying89 _ Y _ D rfl ow (by unfold maxLen;omega) _ _ _ rfl rfl HKY.out _ [] (plainElem_int underlying3 (wrap64_wf _)) ?_;intro w3 ow3 hg3;have OW3:=Ld ow3;have HG3:=Ld hg3;clear ow3 hg3))
    go_meet
    case rel =>
     have hc:c1=(Fd.z94 x.id (es.take k):Nat):=by
      have h:=HC1.out.symm.trans (HAT.out x.id);injection h with h;injection h
     have hcl:=Fd.cnt_le x.id (es.take k);have hw:wrap64 (c1 + 1)=((Fd.z94 x.id (es.take k) + 1:Nat):Int):=by rw[hc];unfold wrap64;omega
     refine⟨⟨D.put (.string x.id) (.lit (.int .i64 (wrap64 (c1 + 1)))),?_,HD.out.put _ _,fun id=>?_⟩,BL1.out.grown HG3.out BL1.out.size (fun q e=>by cases e;omega),Blk.grown XB1.out HG3.out (by intro e;injection e with e;omega),Blk.grown RB.out HG3.out (by intro e;injection e with e;omega)⟩
     ·have h:=OW3.out
      rw[HTK.out,List.length_append];exact h
     ·by_cases hi:id=x.id
      ·subst hi
       rw[atKey_put_same HD.out (by trivial),HTK.out,Fd.q44,if_pos rfl];show DataW.lit (.int .i64 (wrap64 (c1 + 1)))=_;rw[hw]
      ·rw[atKey_put_other (by intro e;injection e with e;exact hi e),HAT.out id,HTK.out,Fd.q44,if_neg (fun e=>hi e.symm)]
       rfl
   case rest =>
   as_aux_lemma =>
   obtain⟨MT3,BL3,XB3,RB3⟩:=hcut;obtain⟨w3,hw3⟩:∃ y,y=wc:=⟨_,rfl⟩;subst hw3;clear r0 ow HAT HD MT1 BL1 XB1 RB HKY;have r0:w3.cell? ⟨R,0,none⟩=some (.string (st x.id)):=Blk.cell RB3.out 0;have r1:w3.cell? ⟨R,1,none⟩=some (.string (st x.ti)):=Blk.cell RB3.out 1;have r2:w3.cell? ⟨R,2,none⟩=some (.string (st x.li)):=Blk.cell RB3.out 2;have r3:w3.cell? ⟨R,3,none⟩=some (.int .i64 x.at_):=Blk.cell RB3.out 3;have r4:w3.cell? ⟨R,4,none⟩=some (.string (st x.ht)):=Blk.cell RB3.out 4;have HCK:=Ld (q4j x w3 (HG.out.below BL3.out hgl));obtain⟨d,hd⟩:∃ d,Fd.z03 x=d:=⟨_,rfl⟩;rw[hd] at HCK HGO;have HDX:=Ld hd;clear hd;go_wp2_with fail;refine HCK.out.mono ?_;rintro e w4 ⟨rfl,hb4⟩;have MT4:=Ld (MT3.out.frame hb4);have BL4:=Ld (BL3.out.trans (hb4.mono BL3.out.size));have XB4:=Ld (Blk.below XB3.out hb4 (Blk.lt XB3.out));have RB4:=Ld (Blk.below RB3.out hb4 (Blk.lt RB3.out));clear hb4 HCK r0 r1 r2 r3 r4 MT3 BL3 XB3 RB3
   by_cases q1:d=0
   ·subst q1
    rw[if_neg (by decide)] at HGO;have r0:w4.cell? ⟨R,0,none⟩=some (.string (st x.id)):=Blk.cell RB4.out 0;have hkey:keyOf prog 9 (.string (st x.id))=some (.string x.id):=keyOf_string_mk underlying9 (by rw[Z4];unfold maxLen;omega);have HKY:=Ld hkey;obtain⟨D,ow,hD,hat⟩:=MT4.out;have HAT:Hid (D.atKey (.string x.id) (.lit (.int .i64 0))=.lit (.int .i64 ((Fd.z94 x.id (es.take k) + 1:Nat):Int))):=by
     show _=_;rw[hat x.id,HTK.out,Fd.q44,if_pos rfl]
    clear hat hD hkey;have HO2:Hid (∀ y ∈ es.take (k + 1),Fd.z03 y=0):=by
     intro y hy;rw[HTK.out] at hy
     rcases List.mem_append.1 hy with q | q
     ·exact HO.out y q
     ·have:y=x:=by simpa using q
      rw[this];exact HDX.out
    by_cases q2:1≤Fd.z94 x.id (es.take k)
    ·have HE:Hid (c=6):=by show _=_;rw[HC.out,HGO.out,if_pos q2,if_pos (by decide)]
     clear HGO;go_wp2_with (first
      | (at_lookup;refine wpList_lookup_own_int _ rfl _ _ 89 rfl 9 3 .i64 slaw underlying89 underlying3 (zeroI _) Y _ D rfl ow _ _ rfl HKY.out ?_;intro c1 hc1 hwc;have hc3:(1:Int) < c1:=(by have h:=HAT.out.symm.trans hc1;injection h with h;injection h with _ h;omega);clear hc1 hwc))
     go_ret;exact⟨V5 (by rw[HE.out]),BL4.out⟩
    ·rw[if_neg q2] at HGO
     rcases Nat.eq_zero_or_pos k with hk0 | hk0
     ·subst hk0
      have HE:Hid (Fd.z0r [] es=Fd.z0r (es.take (0 + 1)) (es.drop (0 + 1))):=HGO.out;clear HGO;go_upto_region 11 with fail
      go_cut [36] (fun b wx=>b=.bool false∧w4=wx)
      case first =>
       go_wp2_with (first
        | (at_lookup;refine wpList_lookup_own_int _ rfl _ _ 89 rfl 9 3 .i64 slaw underlying89 underlying3 (zeroI _) Y _ D rfl ow _ _ rfl HKY.out ?_;intro c1 hc1 hwc;have hc3:¬ (1:Int) < c1:=(by have h:=HAT.out.symm.trans hc1;injection h with h;injection h with _ h;omega);clear hc1 hwc))
       go_meet
       case rel=>exact⟨rfl,rfl⟩
      case rest =>
      as_aux_lemma =>
      obtain⟨rfl,hwx⟩:=hcut;subst hwx;go_upto_region 13 with fail
      go_cut [42] (fun b wx=>b=.bool false∧Hid (Below w4.heap.size w4 wx))
      case first =>
       go_quiet (fail)
       go_wp2_with fail;go_meet
       case rel=>exact⟨rfl,below_drewN (Below.refl _ _) _⟩
      case rest =>
      as_aux_lemma =>
      obtain⟨rfl,HWX⟩:=hcut;go_wp2_with fail;go_roundw
      case rel=>exact⟨1,by omega,by go_num,HE,MT4.out.frame HWX.out,HO2,BL4.out.trans (HWX.out.mono BL4.out.size),Blk.below XB4.out HWX.out (Blk.lt XB4.out)⟩
      case measure=>simp[intOf];omega
     ·obtain⟨j,hkj⟩:∃ j,k=j + 1:=⟨k - 1,by omega⟩
      have hjl:j < es.length:=by omega
      have HLT:Hid ((es.take k).getLast? = some es[j]):=by show _=_;rw[hkj];exact Fd.q6a es j hjl
      have HMJ:Hid (es[j] ∈ es.take k):=by show _ ∈ _;rw[hkj,Fd.take_snoc' es j hjl];exact List.mem_append_right _ (List.mem_singleton.2 rfl)
      have hk0':(0:Int) < (k:Int):=by omega
      have hj1:(k:Int) - 1=j:=by omega
      have hj2:(j:Int) < es.length:=by omega
      have hj3:(0:Int)≤j:=by omega
      have hwr:IntKind.i64.wrap (j:Int)=(j:Int):=by rw[IntKind.wrap_i64];omega
      clear hkj;obtain⟨d0,d1,d2,d3,d4⟩:=HCL.out j hjl;have hgl2:=HK.out g hKg;rw[← BL4.out.cell (p:=⟨g,_,none⟩) hgl2] at d0 d1 d2 d3 d4;rw[HLT.out] at HGO;simp only at HGO;have HPR:=Ld (Fd.q4h (HO.out es[j] HMJ.out));have HXR:=Ld (Fd.q4h HDX.out);obtain⟨p,hp⟩:∃ p,es[j]=p:=⟨_,rfl⟩;rw[hp] at d0 d1 d2 d3 d4 HGO HPR;have HOD:=Ld (fun W=>j05 p x W HPR.out.1 HPR.out.2 HXR.out.1 HXR.out.2);clear hp HLT HMJ;obtain⟨od,hod⟩:∃ o,Fd.ordE p x=o:=⟨_,rfl⟩;rw[hod] at HOD HGO;clear hod;have D0:=Ld (And.intro d0 (And.intro d1 (And.intro d2 (And.intro d3 d4))));clear d0 d1 d2 d3 d4;go_upto_region 11 with fail
      go_cut [36] (fun b wx=>b=.bool false∧w4=wx)
      case first =>
       go_wp2_with (first
        | (at_lookup;refine wpList_lookup_own_int _ rfl _ _ 89 rfl 9 3 .i64 slaw underlying89 underlying3 (zeroI _) Y _ D rfl ow _ _ rfl HKY.out ?_;intro c1 hc1 hwc;have hc3:¬ (1:Int) < c1:=(by have h:=HAT.out.symm.trans hc1;injection h with h;injection h with _ h;omega);clear hc1 hwc))
       go_meet
       case rel=>exact⟨rfl,rfl⟩
      case rest =>
      as_aux_lemma =>
      obtain⟨rfl,hwx⟩:=hcut;subst hwx;obtain⟨d0,d1,d2,d3,d4⟩:=D0.out;have x0:w4.cell? ⟨w.heap.size,0,none⟩=some (.slice (some ⟨g,o,none⟩) es.length cape):=Blk.cell XB4.out 0;have r1:w4.cell? ⟨R,1,none⟩=some (.string (st x.ti)):=Blk.cell RB4.out 1;have r2:w4.cell? ⟨R,2,none⟩=some (.string (st x.li)):=Blk.cell RB4.out 2;have r3:w4.cell? ⟨R,3,none⟩=some (.int .i64 x.at_):=Blk.cell RB4.out 3;have r4:w4.cell? ⟨R,4,none⟩=some (.string (st x.ht)):=Blk.cell RB4.out 4;go_wp2_with fail;go_upto_region 13 with fail;have HALL:Hid (∀ W,Below w4.heap.size w4 W→(W.cell? ⟨w.heap.size,0,none⟩=some (.slice (some ⟨g,o,none⟩) es.length cape)∧(W.cell? ⟨g,o + j * 5,none⟩=some (.string (st p.id))∧W.cell? ⟨g,o + j * 5 + 1,none⟩=some (.string (st p.ti))∧W.cell? ⟨g,o + j * 5 + 2,none⟩=some (.string (st p.li))∧W.cell? ⟨g,o + j * 5 + 3,none⟩=some (.int .i64 p.at_)∧W.cell? ⟨g,o + j * 5 + 4,none⟩=some (.string (st p.ht)))∧(W.cell? ⟨R,0,none⟩=some (.string (st x.id))∧W.cell? ⟨R,1,none⟩=some (.string (st x.ti))∧W.cell? ⟨R,2,none⟩=some (.string (st x.li))∧W.cell? ⟨R,3,none⟩=some (.int .i64 x.at_)∧W.cell? ⟨R,4,none⟩=some (.string (st x.ht))))):=by
       intro W hW;have hx:=Blk.lt XB4.out;have hr:=Blk.lt RB4.out;have hgg:=Nat.lt_of_lt_of_le hgl2 BL4.out.size;refine⟨(hW.cell (p:=⟨_,_,none⟩) hx).trans x0,⟨(hW.cell (p:=⟨_,_,none⟩) hgg).trans d0,(hW.cell (p:=⟨_,_,none⟩) hgg).trans d1,(hW.cell (p:=⟨_,_,none⟩) hgg).trans d2,(hW.cell (p:=⟨_,_,none⟩) hgg).trans d3,(hW.cell (p:=⟨_,_,none⟩) hgg).trans d4⟩,(hW.cell (p:=⟨_,_,none⟩) hr).trans r0,(hW.cell (p:=⟨_,_,none⟩) hr).trans r1,(hW.cell (p:=⟨_,_,none⟩) hr).trans r2,(hW.cell (p:=⟨_,_,none⟩) hr).trans r3,(hW.cell (p:=⟨_,_,none⟩) hr).trans r4⟩
      go_cut [42] (fun b wx=>b=.bool (decide (0≤od))∧Hid (Below w4.heap.size w4 wx))
      case first =>
       clear D0 ow
       go_region_held3 (fun w'=>w'.cell? ⟨w.heap.size,0,none⟩=some (.slice (some ⟨g,o,none⟩) es.length cape)∧(w'.cell? ⟨g,o + j * 5,none⟩=some (.string (st p.id))∧w'.cell? ⟨g,o + j * 5 + 1,none⟩=some (.string (st p.ti))∧w'.cell? ⟨g,o + j * 5 + 2,none⟩=some (.string (st p.li))∧w'.cell? ⟨g,o + j * 5 + 3,none⟩=some (.int .i64 p.at_)∧w'.cell? ⟨g,o + j * 5 + 4,none⟩=some (.string (st p.ht)))∧(w'.cell? ⟨R,0,none⟩=some (.string (st x.id))∧w'.cell? ⟨R,1,none⟩=some (.string (st x.ti))∧w'.cell? ⟨R,2,none⟩=some (.string (st x.li))∧w'.cell? ⟨R,3,none⟩=some (.int .i64 x.at_)∧w'.cell? ⟨R,4,none⟩=some (.string (st x.ht)))) (first
        | exact HALL.out _ (Below.refl _ _).drew
        | exact HALL.out _ hB6) (first | (go_at_call 47;refine(HOD.out _).mono ?_;rintro e w6 ⟨rfl,hb6⟩;have hB6:Below w4.heap.size w4 w6:=((Below.refl _ _).drew).trans hb6))
       all_goals
        go_wp2_with fail;go_meet
        case rel=>exact⟨rfl,hB6⟩
      case rest =>
      as_aux_lemma =>
      obtain⟨rfl,HWX⟩:=hcut
      by_cases q5:0≤od
      ·have HE:Hid (c=4):=by show _=_;rw[HC.out,HGO.out,if_pos q5,if_pos (by decide)]
       clear HGO;go_wp2_with fail;go_ret;exact⟨V5 (by rw[HE.out]),BL4.out.trans (HWX.out.mono BL4.out.size)⟩
      ·rw[if_neg q5] at HGO
       go_wp2_with fail;go_roundw
       case rel=>exact⟨k + 1,by omega,by go_num,HGO,MT4.out.frame HWX.out,HO2,BL4.out.trans (HWX.out.mono BL4.out.size),Blk.below XB4.out HWX.out (Blk.lt XB4.out)⟩
       case measure=>simp[intOf];omega
   ·rw[if_pos q1] at HGO
    have HE:Hid (c=d):=by show _=_;rw[HC.out,HGO.out,if_pos q1]
    have e1:(d == 0)=false:=beq_eq_false_iff_ne.2 q1;clear HGO q1;go_wp2_with fail;go_ret;exact⟨V5 (by rw[HE.out]),BL4.out⟩
  ·have hke:k=es.length:=by omega
   have HE:Hid (c=Fd.z08 none rd):=by
    show _=_;rw[HC.out,HL.out,hke,List.drop_length,show Fd.z0r (es.take es.length) []=0 from rfl,if_neg (by decide)]
   have x1:wr.cell? ⟨w.heap.size,1,none⟩=some (.slice aor rd.length capr):=Blk.cell XB.out 1;have HRD:=Ld (sh_read rd _ K wr (HVR.out.frame (fun b q=>⟨q,BL.out.block b (HK.out b q)⟩)));clear hke HL;go_wp2_with fail;refine HRD.out.mono ?_;rintro e wx ⟨rfl,hwx⟩;subst wx;go_wp2_with fail;go_ret;exact⟨V5 (by rw[HE.out]),BL.out⟩
end Go.Proofs.YtjonkbdldebkiaaGreatDoor
namespace Go.Proofs.YtjonkbdldebkiaaGreatDoor
open Go.Proofs.Tryz Go.RowKit
def enAg (x:Fd.En):Value:=.agg #[.string (st x.id),.string (st x.ti),.string (st x.li),.int .i64 x.at_,.string (st x.ht)]
def AsksE (g:FuncId) (lb:Array Value) (q:Fd.En→Bool) (l:List Fd.En) (w:World):Prop :=
 ∀ w1,Below w.heap.size w w1→∀ x,x ∈ l→Calls prog g (#[enAg x]++lb) w1 fun e w'=>e=.returned (.bool (q x))∧Below w1.heap.size w1 w'
theorem z8s (g:FuncId) (lb:Array Value) (q:Fd.En→Bool) (eg:∀ args w,(callFunc g args).run prog w=.ok (.enter g args) w) (l:List Fd.En) (v:Value) (K:Nat→Prop) (w:World) (hv:z18 w K v l) (hK:∀ b,K b→b < w.heap.size) (hl:l.length≤33554432) (hq:AsksE g lb q l w) :
  Calls prog 146 #[v,.func (.func g) #[] lb] w fun e w'=>Below w.heap.size w w'∧∃ i:Int,e=.returned (.int .i64 i)∧((i = -1∧∀ x ∈ l,q x=false)∨∃ (j:Nat) (hj:j < l.length),i=(j:Int)∧q l[j]=true∧∀ x ∈ l.take j,q x=false):=by
 obtain⟨b,o,cap,hKb,hv1,hcl⟩:=hv.at_
 have HQ:=Ld hq;have HC:=Ld hcl;clear hq hcl
 rcases hv1 with hv1 | ⟨ao,hv1,hl0⟩
 ·subst hv1
  go_enter func146,ntmps146;go_wp2_with fail
  go_loopw [8] (fun i wr=>∃ k:Nat,k≤l.length∧i=.int .i64 k∧Hid (∀ x ∈ l.take k,q x=false)∧Hid (Below w.heap.size w wr)) (fun i _=>l.length - (intOf i).toNat)
  case atStart=>exact⟨0,Nat.zero_le _,rfl,fun x h=>absurd h (by simp),Below.refl _ _⟩
  case round =>
   obtain⟨k,hk,rfl,HA,BL⟩:=hrel
   by_cases hlt:k < l.length
   ·have hb:b < w.heap.size:=hK b (hKb (by intro e;subst e;simp at hlt))
    obtain⟨c0,c1,c2,c3,c4⟩:=HC.out k hlt;rw[← BL.out.cell (p:=⟨b,_,none⟩) hb] at c0 c1 c2 c3 c4;have hcall:=HQ.out wr BL.out l[k] (List.getElem_mem _);obtain⟨bb,hbb⟩:∃ bb,q l[k]=bb:=⟨_,rfl⟩;rw[hbb] at hcall;have HBB:=Ld hbb;clear hbb;unfold enAg at hcall;have HCALL:=Ld hcall;clear hcall
    cases bb with
    | true =>
     go_wp2_with fail;refine HCALL.out.mono ?_;rintro e w1 ⟨rfl,hb1⟩;have BL1:=Ld (BL.out.trans (hb1.mono BL.out.size));clear hb1;go_wp2_with fail;go_ret;exact⟨BL1.out,k,rfl,.inr ⟨k,hlt,rfl,HBB.out,HA.out⟩⟩
    | false =>
     go_wp2_with fail;refine HCALL.out.mono ?_;rintro e w1 ⟨rfl,hb1⟩;have BL1:=Ld (BL.out.trans (hb1.mono BL.out.size));have HA2:Hid (∀ x ∈ l.take (k + 1),q x=false):=by
      intro x hx;rw[List.take_succ_eq_append_getElem hlt,List.mem_append,List.mem_singleton] at hx
      rcases hx with hx | rfl
      ·exact HA.out x hx
      ·exact HBB.out
     clear hb1;go_wp2_with fail;go_roundw
     case rel=>exact⟨k + 1,by omega,by go_num,HA2,BL1⟩
     case measure=>simp[intOf];omega
   ·have HN:Hid (∀ x ∈ l,q x=false):=by
     have:=HA.out;rw[List.take_of_length_le (by omega)] at this;exact this
    clear HA;go_wp2_with fail;go_ret;exact⟨BL.out,-1,rfl,.inl ⟨rfl,HN.out⟩⟩
 ·subst hl0
  subst hv1;clear HC hK;go_enter func146,ntmps146;go_wp2_with fail
  go_loopw [8] (fun i wr=>i=.int .i64 0∧wr=w) (fun _ _=>0)
  case atStart=>exact⟨rfl,rfl⟩
  case round =>
   obtain⟨rfl,rfl⟩:=hrel;go_wp2_with fail;go_ret;exact⟨Below.refl _ _,-1,rfl,.inl ⟨rfl,fun _ h=>nomatch h⟩⟩
theorem q02 (g:FuncId) (lb:Array Value) (q:Fd.En→Bool) (eg:∀ args w,(callFunc g args).run prog w=.ok (.enter g args) w) (l:List Fd.En) (v:Value) (K:Nat→Prop) (w:World) (hv:z18 w K v l) (hK:∀ b,K b→b < w.heap.size) (hl:l.length≤33554432) (hq:AsksE g lb q l w) :
  Calls prog 176 #[v,.func (.func g) #[] lb] w fun e w'=>e=.returned (.bool (l.any q))∧Below w.heap.size w w':=by
 have HI:=Ld (z8s g lb q eg l v K w hv hK hl hq);clear hq hK hv;go_enter func176,ntmps176;go_wp2_with fail;refine HI.out.mono ?_;rintro e w1 ⟨hb,i,rfl,hi⟩;have HB:=Ld hb;have H2:Hid (decide (0≤i)=l.any q):=by
  show _=_
  rcases hi with ⟨rfl,h⟩ | ⟨j,hj,rfl,h,_⟩
  ·rw[decide_eq_false (by decide)]
   symm
   rw[Bool.eq_false_iff];intro hq;rw[List.any_eq_true] at hq;obtain⟨x,hx,hq⟩:=hq;rw[h x hx] at hq;cases hq
  ·rw[decide_eq_true (by omega)]
   symm
   rw[List.any_eq_true];exact⟨_,List.getElem_mem hj,h⟩
 clear hb hi;go_wp2_with fail;go_ret;exact⟨Z8 H2.out,HB.out⟩
end Go.Proofs.YtjonkbdldebkiaaGreatDoor
