/- Cells of attributes and trees, each by itself. -/
import Derived.Test.YteidgdpaolieaaaGreatDoorYMkTok8
import Derived.Test.YteidgdpaolieaaaGreatDoorYMkTree3
import Derived.Deep.AppendSrc
import Derived.Test.YteidgdpaolieaaaGreatDoorYMkTok5
import Derived.Deep.RegionHeld3
import Derived.Test.YteidgdpaolieaaaGreatDoorYUrlPlain
set_option linter.unusedVariables false
set_option linter.unusedSimpArgs false
namespace Go.Proofs.YteidgdpaolieaaaGreatDoor
open Go.RowKit
theorem AtsV.oneCell {w : World} {K : Nat→Prop} {v : Value} {l : List Mk.At} (h : AtsV w K v l) : v.oneCell' = true:=by
 obtain ⟨ao,cap,h1,_⟩:=h
 rw [h1];rfl
theorem FCells.oneCell {w : World} {K : Nat→Prop} : ∀ {f : Mk.Fo} {xs : List Value},FCells w K f xs→∀ u ∈ xs,u.oneCell' = true
 | .nil,xs,h,u,hu=>by have h : xs = []:=h;rw [h] at hu;cases hu
 | .node _ _ _ _ _,xs,⟨va,ao,cap,zs,ys,h1,h2,h3,h4,h5,h6⟩,u,hu=>by
  rw [h1] at hu
  rcases List.mem_append.1 hu with hu | hu
  ·simp at hu
   rcases hu with rfl | rfl | rfl | rfl
   ·rfl
   ·exact h2.oneCell
   ·rfl
   ·rfl
  ·exact h6.oneCell u hu
end Go.Proofs.YteidgdpaolieaaaGreatDoor

/- Contract of the reference's joinText at any node. -/
namespace Go.Proofs.YteidgdpaolieaaaGreatDoor
open Go.RowKit
set_option maxHeartbeats 8000000 in
set_option maxRecDepth 100000 in
theorem rf_joinNode (f : Mk.Fo) (n t : List UInt8) (a : List Mk.At) (k : Mk.Fo) (v va vk : Value) (B : Nat) (K : Nat→Prop) (xs : List Value) (w : World) (hF : OwnF w B K v f xs) (hva : AtsV w K va a) (hvk : FoV w K vk k) (hB : B≤w.heap.size) (hl : f.bulk + t.length≤1099511627776) :
  Calls Tryz.prog 32 #[v,.agg #[.string (st n),va,.string (st t),vk]] w fun e w'=>∃ v' xs',e = .returned v'∧OwnF w' B K v' (Mk.Fo.snoc n a t k f) xs'∧Ap (fun b=>v.ownBlock = some b) w w'∧freshOf w v v':=by
 obtain ⟨aoa,capa,hva1,_⟩:=id hva
 obtain ⟨aok,capk,zs,hvk1,hrow,hfc,hkm⟩:=id hvk
 subst hva1
 subst hvk1
 have HKL:=hF.le
 have hst : ∀ l : List UInt8,(st l).toList = l:=fun l=>Lib.toList_data _
 have hfl:=Mk.Fo.len_bulk f
 have htl:=Mk.Fo.lastT_bulk f
 have hal:=(Below.refl w.heap.size w).alloc (Nat.le_refl _) (.cells #[.string (st n),.slice aoa a.length capa,.string (st t),.slice aok k.len capk] 52)
 have PB:=Lib.hid (Blk.new w 52 #[.string (st n),.slice aoa a.length capa,.string (st t),.slice aok k.len capk])
 have OF1:=Lib.hid (hF.frame hal.size (fun b hb _=>hal.block b hb))
 have AP1 : Hid (Ap (fun b=>v.ownBlock = some b) w (w.alloc (.cells #[.string (st n),.slice aoa a.length capa,.string (st t),.slice aok k.len capk] 52))):=Ap.of_below hal
 have HVA : Hid (AtsV (w.alloc (.cells #[.string (st n),.slice aoa a.length capa,.string (st t),.slice aok k.len capk] 52)) K (.slice aoa a.length capa) a):=hva.frame (fun b q=>⟨q,hal.block b (HKL b q)⟩)
 have HRO : Hid (RowAt (w.alloc (.cells #[.string (st n),.slice aoa a.length capa,.string (st t),.slice aok k.len capk] 52)) K aok zs):=hrow.frame (fun b q=>⟨q,hal.block b (HKL b q)⟩)
 have HFC : Hid (FCells (w.alloc (.cells #[.string (st n),.slice aoa a.length capa,.string (st t),.slice aok k.len capk] 52)) K k zs):=hfc.frame (fun b q=>⟨q,hal.block b (HKL b q)⟩)
 have hvP : v.ownBlock ≠ some w.heap.size:=fun e=>by have:=(hF.own.lt _ e).2;omega
 have HVP:=Lib.hid hvP
 have hsz : w.heap.size + 1 = (w.alloc (.cells #[.string (st n),.slice aoa a.length capa,.string (st t),.slice aok k.len capk] 52)).heap.size:=by simp
 obtain ⟨ao0,cap0,hu0⟩:=own_slice hF.own
 clear hF hal hvP hva hvk hrow hfc HKL
 subst hu0
 go_enter Tryz.func32,Tryz.ntmps32
 go_upto_region 1 with fail
 generalize (w.alloc (.cells #[.string (st n),.slice aoa a.length capa,.string (st t),.slice aok k.len capk] 52)) = w1 at PB OF1 AP1 hsz HVA HRO HFC ⊢
 generalize hP : w.heap.size = P at PB HVP hB hsz ⊢
 have p0 : w1.cell? ⟨P,0,none⟩ = some (.string (st n)):=Blk.cell PB.out 0
 have p2 : w1.cell? ⟨P,2,none⟩ = some (.string (st t)):=Blk.cell PB.out 2
 have p1 : w1.cell? ⟨P,1,none⟩ = some (.slice aoa a.length capa):=Blk.cell PB.out 1
 have p3 : w1.cell? ⟨P,3,none⟩ = some (.slice aok k.len capk):=Blk.cell PB.out 3
 have HPW:=Lib.hid hP
 clear hP
 go_upto_region 2 with fail
 go_cut [24] (fun b wx=>b = .bool (f.merges n)∧w1 = wx)
 case first =>
  as_aux_lemma =>
  by_cases hf0 : f = .nil
  ·have HM : Hid (f.merges n = false):=by show _ = _;rw [hf0,Mk.Fo.merges_nil]
   have hl0 : ¬ 0 < f.len:=by rw [hf0];simp [Mk.Fo.len]
   clear hf0
   go_wp2_with fail
   go_meet
   case rel=>exact ⟨by rw [HM.out],rfl⟩
  have hl0 : 0 < f.len:=Fo_len_pos f hf0
  rcases name_cases n [] with ⟨hn,qn⟩ | ⟨hn,qn⟩
  rotate_left
  ·have HM : Hid (f.merges n = false):=by
    show _ = _
    rw [Bool.eq_false_iff]
    intro q
    exact hn ((Mk.Fo.merges_iff _ _).1 q).1
   have qe : n.isEmpty = false:=by cases n with | nil=>exact absurd rfl hn | cons _ _=>rfl
   clear hf0 hn
   go_wp2_with fail
   go_meet
   case rel=>exact ⟨by rw [HM.out],rfl⟩
  ·have qe : n.isEmpty = true:=by rw [hn];rfl
   have HNE:=Lib.hid hn
   obtain ⟨g0,capz,hz,d1,d2,df⟩:=OF1.out.last hf0
   injection hz with z1 z2 z3
   subst z1
   subst z3
   obtain ⟨j,hj⟩ : ∃ j,j = f.len - 1:=⟨_,rfl⟩
   rw [← hj] at d1
   have hj1 : (f.len : Int) - 1 = j:=by omega
   have hj2 : (j : Int) < f.len:=by omega
   have hj3 : (0 : Int)≤j:=by omega
   have hbl : f.lastN = [] ∨ f.lastN.isEmpty = false:=by
    cases f.lastN with
    | nil=>exact .inl rfl
    | cons _ _=>exact .inr rfl
   have HF0:=Lib.hid hf0
   clear hj d2 df hf0 z2 hn qn
   rcases hbl with h1 | h1
   ·have HM : Hid (f.merges n = true):=(Mk.Fo.merges_iff _ _).2 ⟨HNE.out,HF0.out,h1⟩
    have he1 : f.lastN.isEmpty = true:=by rw [h1];rfl
    clear h1
    go_wp2_with fail
    go_meet
    case rel=>exact ⟨by rw [HM.out],rfl⟩
   ·have HM : Hid (f.merges n = false):=by
     show _ = _
     rw [Bool.eq_false_iff]
     intro q
     rw [((Mk.Fo.merges_iff _ _).1 q).2.2] at h1
     cases h1
    go_wp2_with fail
    go_meet
    case rel=>exact ⟨by rw [HM.out],rfl⟩
 case rest =>
 as_aux_lemma =>
 obtain ⟨rfl,hwx⟩:=hcut
 subst hwx
 obtain ⟨i0,hi,hz0,hz1,hz2⟩:=info_parts Tryz.infoNode
 cases hm : f.merges n with
 | false =>
  as_aux_lemma =>
  have HMB:=Lib.hid hm
  clear hm
  have ow10:=own_ap' OF1.out.own ((Ap.refl (fun _=>False) w1).alloc (.cells #[.string (st n),.slice aoa a.length capa,.string (st t),.slice aok k.len capk] 52)) (fun _ _ q=>q)
  have hal2:=(Below.refl w1.heap.size w1).alloc (Nat.le_refl _) (.cells #[.string (st n),.slice aoa a.length capa,.string (st t),.slice aok k.len capk] 52)
  go_wp2_with (at_builtin;refine wpList_append_fresh rfl _ _ 22 rfl B 52 i0 (.agg #[.string ⟨#[]⟩,.slice none 0 0,.string ⟨#[]⟩,.slice none 0 0]) 4 80 Tryz.underlying22 hi hz0 hz1 hz2 rfl (by decide) _ _ _ rfl ow10 ⟨w1.heap.size,0,none⟩ 1 1 [.string (st n),.slice aoa a.length capa,.string (st t),.slice aok k.len capk] rfl rfl (cells_new _ _ _) (by intro u hu;simp at hu;rcases hu with rfl | rfl | rfl | rfl <;> rfl) (by decide) (by unfold maxLen;omega) (by omega) (by simp;omega) ?_)
  intro v' w2 hown' hgrow hfresh
  have hfr2 : v'.ownBlock = (Value.slice ao0 f.len cap0).ownBlock ∨ v'.ownBlock = some (w1.alloc (.cells #[.string (st n),.slice aoa a.length capa,.string (st t),.slice aok k.len capk] 52)).heap.size:=hfresh.imp id (fun e=>by rw [e];simp)
  have OFP:=Lib.hid (OF1.out.pushed HVA.out (ao:=aok) (cap:=capk) (zs:=zs) (k:=k) HRO.out hkm HFC.out HMB.out hal2 hown' hgrow hfr2)
  have APP : Hid (Ap (fun b=>(Value.slice ao0 f.len cap0).ownBlock = some b) w w2):=(AP1.out.alloc (.cells #[.string (st n),.slice aoa a.length capa,.string (st t),.slice aok k.len capk] 52)).grown hgrow (fun b hb e=>e)
  have FRP : Hid (freshOf w (Value.slice ao0 f.len cap0) v'):=by
   rcases hfr2 with e | e
   ·exact .inl e
   ·exact .inr ⟨_,e,by have:=AP1.out.size;simp;omega⟩
  clear hown' hgrow hfresh hfr2 ow10 hal2 OF1 AP1 p0 p1 p2 p3
  go_wp2_with fail
  go_ret
  exact ⟨v',_,rfl,OFP.out,APP.out,FRP.out⟩
 | true =>
  as_aux_lemma =>
  have HM:=Lib.hid hm
  have hf0 : f ≠ .nil:=((Mk.Fo.merges_iff _ _).1 hm).2.1
  clear hm
  obtain ⟨g0,capz,hz,d1,d2,df⟩:=OF1.out.last hf0
  injection hz with z1 z2 z3
  subst z1
  subst z3
  have hl0 : 0 < f.len:=Fo_len_pos f hf0
  have hoc:=FCells.oneCell OF1.out.cells
  have hcs:=OF1.out.own.cells (g:=g0) rfl
  have hxl:=OF1.out.cells.length
  have hg0:=(OF1.out.own.lt g0 rfl).2
  clear z2 d1 d2 df hf0
  have ow0 : (w1.alloc (.cells #[] 52)).ownsRow B 52 4 (.slice (some ⟨w1.heap.size,0,none⟩) 0 0) 0 [] :=
   ⟨rfl,.inr ⟨w1.heap.size,0,#[],rfl,by omega,Blk.new w1 _ _,Nat.le_refl _,Nat.zero_le _,rfl,rfl⟩⟩
  have hnews : ∀ j u,xs[j]? = some u→(w1.alloc (.cells #[] 52)).cell? ((⟨g0,0,none⟩ : Addr).add j) = some u:=fun j u q=>by
   rw [← hcs j u q]
   have e0 : (⟨g0,0,none⟩ : Addr).add j = ⟨g0,j,none⟩:=by unfold Addr.add;split <;> simp_all
   rw [e0]
   exact cell_of_block (Below.heap_alloc w1 _ g0 hg0) j
  have hbl0:=(Below.refl w1.heap.size w1).alloc (Nat.le_refl _) (.cells #[] 52)
  go_wp2_with (at_builtin;refine wpList_append_fresh rfl _ _ 22 rfl B 52 i0 (.agg #[.string ⟨#[]⟩,.slice none 0 0,.string ⟨#[]⟩,.slice none 0 0]) 4 80 Tryz.underlying22 hi hz0 hz1 hz2 rfl (by decide) _ _ _ rfl ow0 ⟨g0,0,none⟩ f.len cap0 xs rfl hxl hnews hoc hl0 (by rw [Nat.zero_add];unfold maxLen;omega) (by rw [Nat.zero_add];omega) (by simp;omega) ?_)
  intro v' w3 hown' hgrow hfresh
  have hbk : ∀ b,b < w1.heap.size→w3.heap[b]? = w1.heap[b]?:=fun b hb=>(hgrow.block b (Nat.lt_of_lt_of_le hb hbl0.size) (fun e=>by have e : some b = some w1.heap.size:=e;injection e with e;omega)).trans (hbl0.block b hb)
  have hfv : ∀ b,v'.ownBlock = some b→w1.heap.size≤b:=fun b q=>by
   rcases hfresh with e | e
   ·rw [q] at e;have e : some b = some w1.heap.size:=e;injection e with e;omega
   ·rw [q] at e;injection e with e;have:=hbl0.size;omega
  have hsz3 : w1.heap.size≤w3.heap.size:=Nat.le_trans hbl0.size hgrow.size
  have OF3 : Hid (OwnF w3 B K v' f xs):=⟨by have:=hown';first | exact this | rwa [Nat.zero_add,List.nil_append] at this,OF1.out.cells.frame (fun b hb=>⟨hb,hbk b (OF1.out.le b hb)⟩),fun b q hb=>by have:=hfv b q;have:=OF1.out.le b hb;omega,fun b hb=>Nat.lt_of_lt_of_le (OF1.out.le b hb) hsz3⟩
  have AP3 : Hid (Ap (fun b=>(Value.slice (some ⟨g0,0,none⟩) f.len cap0).ownBlock = some b) w w3):=(AP1.out.alloc (.cells #[] 52)).grown hgrow (fun b hb e=>by have e : some w1.heap.size = some b:=e;injection e with e;have:=AP1.out.size;omega)
  have HFV:=Lib.hid hfv
  have hP3 : P < w3.heap.size:=by omega
  have p2' : w3.cell? ⟨P,2,none⟩ = some (.string (st t)):=(cell_of_block (hbk P (by omega)) 2).trans p2
  clear hown' hgrow hfresh hbk hfv hbl0 hnews ow0 hoc hcs p0 p1 p2 p3 PB
  have hq:=(Mk.Fo.merges_iff _ _).1 HM.out
  obtain ⟨g3,cap3,hz3,d1,d2,df⟩:=OF3.out.last hq.2.1
  subst hz3
  have OFM:=Lib.hid (OF3.out.merged a t k HM.out (g:=g3) rfl)
  obtain ⟨j,hj⟩ : ∃ j,j = f.len - 1:=⟨_,rfl⟩
  rw [← hj] at d1 d2 OFM
  have hj1 : (f.len : Int) - 1 = j:=by omega
  have hj2 : (j : Int) < f.len:=by omega
  have hj3 : (0 : Int)≤j:=by omega
  have df2:=df (j * 4 + 2)
  have q1 : ¬ 9223372036854775807 < (st f.lastT).size + (st t).size:=by rw [st_size,st_size];omega
  have hg3:=HFV.out g3 rfl
  have hszw:=AP1.out.size
  clear hj hq df
  go_wp2_with fail
  go_region
  have AP4 : Hid (Ap (fun b=>(Value.slice (some ⟨g0,0,none⟩) f.len cap0).ownBlock = some b) w (w3.setCell ⟨g3,j * 4 + 2,none⟩ (.string (st (f.lastT++t))))):=AP3.out.setNew (p:=⟨g3,j * 4 + 2,none⟩) (by show w.heap.size≤g3;omega) _
  have OFM2 : Hid (OwnF (w3.setCell ⟨g3,j * 4 + 2,none⟩ (.string (st (f.lastT++t)))) B K (.slice (some ⟨g3,0,none⟩) f.len cap3) (Mk.Fo.snoc n a t k f) (xs.set (4 * j + 2) (.string (st (f.lastT++t))))):=by
   have:=OFM.out
   rw [Nat.mul_comm 4 j] at this
   rw [Nat.mul_comm 4 j]
   exact this
  have FR4 : Hid (freshOf w (.slice (some ⟨g0,0,none⟩) f.len cap0) (.slice (some ⟨g3,0,none⟩) f.len cap3)):=.inr ⟨g3,rfl,by omega⟩
  all_goals
   rw [show st f.lastT++st t = st (f.lastT++t) from app_st (st f.lastT) (st t)]
   have OFM3:=Lib.hid (OFM2.out.frame (w':=(w3.setCell ⟨g3,j * 4 + 2,none⟩ (.string (st (f.lastT++t)))).drew) (Nat.le_refl _) (fun _ _ _=>rfl))
   have AP5:=Lib.hid (AP4.out.drew)
   clear OFM OFM2 AP4 OF1 AP1 d1 d2 p2' df2
   go_wp2_with fail
   go_ret
   exact ⟨_,_,rfl,OFM3.out,AP5.out,FR4.out⟩
theorem rf_joinText (f : Mk.Fo) (t : List UInt8) (v : Value) (B : Nat) (K : Nat→Prop) (xs : List Value) (w : World) (hF : OwnF w B K v f xs) (hB : B≤w.heap.size) (hl : f.bulk + t.length≤1099511627776) :
  Calls Tryz.prog 32 #[v,.agg #[.string ⟨#[]⟩,.slice none 0 0,.string (st t),.slice none 0 0]] w fun e w'=>∃ v' xs',e = .returned v'∧OwnF w' B K v' (Mk.Fo.snoc [] [] t .nil f) xs'∧Ap (fun b=>v.ownBlock = some b) w w'∧freshOf w v v' :=
 rf_joinNode f [] t [] .nil v (.slice none 0 0) (.slice none 0 0) B K xs w hF (AtsV.nil _ _) ⟨none,0,[],rfl,.inl rfl,rfl,Nat.zero_le _⟩ hB hl
end Go.Proofs.YteidgdpaolieaaaGreatDoor

/- Contract of the program's check: what is wrong with a tree that stands in elements of some names. Condition: at most 33554432 nodes, names, attributes and letters together. -/
namespace Go.Proofs.YteidgdpaolieaaaGreatDoor
open Go.RowKit
theorem Tryz.infoStr : (Tryz.prog.info? 9).map (fun i=>(i.zero,i.size,i.bytes)) = some (some (.string ⟨#[]⟩),1,16):=by kernel_rfl
theorem StrsV.of_own {w : World} {K : Nat→Prop} {B : Nat} {e : TypeId} {v : Value} {l : List (List UInt8)} (h : w.ownsRow B e 1 v l.length (strVs l)) (hK : ∀ g,v.ownBlock = some g→K g) : StrsV w K v l:=by
 rcases h.2 with ⟨hv,hn⟩ | ⟨g,cap,cur,hv,_,hh,hnc,hcm,hcs,ht⟩
 ·have : l = []:=List.eq_nil_of_length_eq_zero hn
  subst this
  exact ⟨none,0,hv,Nat.le_refl _,.inl rfl,Nat.zero_le _⟩
 ·obtain ⟨ao,cap',h1,h2,h3,h4⟩:=RowAt.of_own h hK
  rw [hv] at h1
  injection h1 with e1 e2 e3
  subst e1;subst e3
  exact ⟨_,_,hv,hnc,h2,hcm⟩
theorem tr_Clone (l : List (List UInt8)) (v : Value) (K : Nat→Prop) (w : World) (hv : StrsV w K v l) (hl : l.length≤33554432) :
  Calls Tryz.prog 78 #[v] w fun e w'=>∃ v',e = .returned v'∧w'.ownsRow w.heap.size 9 1 v' l.length (strVs l)∧Below w.heap.size w w':=by
 obtain ⟨ao,cap,rfl,hcap,hcm,hat⟩:=hv.at_
 rcases hat with h0 | ⟨g,o,rfl,_,hc⟩
 ·subst h0
  cases ao with
  | none =>
   refine (Tryz.slices_Clone_string_nil 0 cap w).mono ?_
   rintro e w' ⟨rfl,rfl⟩
   exact ⟨_,rfl,World.ownsRow_nil _ _ _ _,Below.refl _ _⟩
  | some a =>
   refine (Tryz.slices_Clone_string_zero a cap w).mono ?_
   rintro e w' ⟨v',rfl,h1,_,h2⟩
   exact ⟨_,rfl,h1,h2⟩
 ·refine (Tryz.slices_Clone_string g o l.length cap (l.map st) w (by simp) (by omega) (fun j hj=>?_)).mono ?_
  ·have hj' : j < l.length:=by simpa using hj
   rw [hc j hj']
   simp [List.getD,List.getElem?_eq_getElem hj']
  ·rintro e w' ⟨v',rfl,h1,_,h2⟩
   refine ⟨_,rfl,?_,h2⟩
   have : ((l.map st).take l.length).map Value.string = strVs l:=by
    rw [List.take_of_length_le (by simp),List.map_map];rfl
   rwa [this] at h1
def prevOf (w : World) (g o : Nat) (k : Nat) (prev : Bool) : Prop:=match k with | 0=>prev = false | j + 1=>∃ pn : List UInt8,w.cell? ⟨g,o + j * 4,none⟩ = some (.string (st pn))∧prev = decide (pn = [])
theorem checkF_node (names : List (List UInt8)) (prev : Bool) (n : List UInt8) (a : List Mk.At) (t : List UInt8) (k r : Mk.Fo) : Mk.checkF (.node n a t k r) names prev = if Mk.nodeE names n a t k ≠ 0 then Mk.nodeE names n a t k else if n = []∧prev = true then 4 else if Mk.checkF k (names++[n]) false ≠ 0 then Mk.checkF k (names++[n]) false else Mk.checkF r names (decide (n = [])):=rfl
set_option maxHeartbeats 8000000 in
set_option maxRecDepth 100000 in
theorem tr_check (N : Nat) : ∀ (f : Mk.Fo) (names : List (List UInt8)) (v vn : Value) (K : Nat→Prop) (w : World),f.bulk < N→names.length + f.bulk≤33554432→FoV w K v f→StrsV w K vn names→(∀ b,K b→b < w.heap.size) →
  Calls Tryz.prog 45 #[v,vn] w fun e w'=>e = .returned (.int .i64 (Mk.checkF f names false))∧Below w.heap.size w w':=by
 induction N with
 | zero=>intro f names v vn K w hN;omega
 | succ N ih =>
  intro f names v vn K w hN hbk hv hvn hK
  obtain ⟨g,o,cap,hv1,hlen,hat⟩:=hv.at_
  have HAT:=Lib.hid hat
  clear hat
  have hfl:=Mk.Fo.len_bulk f
  have hst : ∀ l : List UInt8,(st l).toList = l:=fun l=>Lib.toList_data _
  rcases hv1 with ⟨hv1,hKg⟩ | ⟨ao,hv1,hnil⟩
  ·have hgl:=hK g hKg
   subst hv1
   go_enter Tryz.func45,Tryz.ntmps45
   go_wp2_with fail
   go_loopw [11] (fun i wr=>∃ (k : Nat) (prev : Bool),k≤f.len∧i = .int .i64 k∧Hid (Mk.checkF f names false = Mk.checkF (f.drop k) names prev)∧Hid (prevOf w g o k prev)∧Hid (Below w.heap.size w wr)) (fun i _=>f.len - (intOf i).toNat)
   case atStart=>exact ⟨0,false,Nat.zero_le _,rfl,by show _ = _;rw [Mk.Fo.drop_zero],rfl,Below.refl _ _⟩
   case round =>
    obtain ⟨k,prev,hk,rfl,HA,HP,BL⟩:=hrel
    have hsz:=BL.out.size
    by_cases hlt : k < f.len
    ·obtain ⟨n,a,t,kk,r,hd,hd1⟩:=Mk.Fo.drop_lt f k hlt
     obtain ⟨va,vk,c0,c1,c2,c3,hva,hvk⟩:=HAT.out k n a t kk r hd
     have hprev2 : prevOf w g o (k + 1) (decide (n = [])):=⟨n,c0,rfl⟩
     have HP2:=Lib.hid hprev2
     rw [← BL.out.cell (p:=⟨g,_,none⟩) hgl] at c0 c1 c2 c3
     have hdb:=Mk.Fo.drop_bulk f k
     rw [hd] at hdb
     have hkb : kk.bulk + r.bulk + n.length + Mk.Fo.atB a + 1≤f.bulk:=by
      have e : (Mk.Fo.node n a t kk r).bulk = 1 + n.length + t.length + Mk.Fo.atB a + kk.bulk + r.bulk:=rfl
      omega
     have HD : Hid (Mk.checkF f names false = if Mk.nodeE names n a t kk ≠ 0 then Mk.nodeE names n a t kk else if n = []∧prev = true then 4 else if Mk.checkF kk (names++[n]) false ≠ 0 then Mk.checkF kk (names++[n]) false else Mk.checkF (f.drop (k + 1)) names (decide (n = []))):=by
      show _ = _
      rw [HA.out,hd,hd1,checkF_node]
     obtain ⟨aoa,capa,hva1,hva2⟩:=id hva
     obtain ⟨aok,capk,xsk,hvk1,hvk2⟩:=id hvk
     subst hva1
     subst hvk1
     have hal:=(Below.refl wr.heap.size wr).alloc (Nat.le_refl _) (.cells #[.string (st n),.slice aoa a.length capa,.string (st t),.slice aok kk.len capk] 52)
     have BL1:=Lib.hid (BL.out.trans (hal.mono hsz))
     have PB1:=Lib.hid (Blk.new wr 52 #[.string (st n),.slice aoa a.length capa,.string (st t),.slice aok kk.len capk])
     have hnd:=tr_node names n t a kk (.slice aoa a.length capa) (.slice aok kk.len capk) vn K (wr.alloc (.cells #[.string (st n),.slice aoa a.length capa,.string (st t),.slice aok kk.len capk] 52)) (hva.below hK BL1.out) (hvk.below hK BL1.out) (hvn.below hK BL1.out) (fun b hb=>Nat.lt_of_lt_of_le (hK b hb) BL1.out.size) (by omega) (by omega) (by omega)
     unfold nodeV at hnd
     generalize Mk.nodeE names n a t kk = ce at hnd HD
     have HND:=Lib.hid hnd
     have HVK:=Lib.hid hvk
     clear HAT hal hd hd1 hnd HA hva2 hvk2 hva hvk
     go_wp2_with fail
     refine HND.out.mono ?_
     rintro e w2 ⟨rfl,hb2⟩
     have BL2:=Lib.hid (BL1.out.trans (hb2.mono BL1.out.size))
     have PB2:=Lib.hid (Blk.below PB1.out hb2 (Blk.lt PB1.out))
     clear hb2 HND BL1 PB1 BL
     by_cases hc0 : ce = 0
     ·subst hc0
      have HD2 : Hid (Mk.checkF f names false = if n = []∧prev = true then 4 else if Mk.checkF kk (names++[n]) false ≠ 0 then Mk.checkF kk (names++[n]) false else Mk.checkF (f.drop (k + 1)) names (decide (n = []))):=by show _ = _;rw [HD.out];simp
      clear HD
      have p0 : w2.cell? ⟨wr.heap.size,0,none⟩ = some (.string (st n)):=Blk.cell PB2.out 0
      have p3 : w2.cell? ⟨wr.heap.size,3,none⟩ = some (.slice aok kk.len capk):=Blk.cell PB2.out 3
      have hen : n = [] ∨ n.isEmpty = false:=by
       cases n with
       | nil=>exact .inl rfl
       | cons _ _=>exact .inr rfl
      have HEN:=Lib.hid hen
      clear hen c0 c1 c2 c3
      go_upto_region 7 with fail
      go_cut [37] (fun b wx=>b = .bool (decide (n = []) && prev)∧w2 = wx)
      case first =>
       rcases Nat.eq_zero_or_pos k with h0 | h0
       ·have hpf : prev = false:=by have:=HP.out;subst h0;exact this
        have hk0 : ¬ 0 < k:=by omega
        clear h0
        have HPF:=Lib.hid hpf
        clear hpf
        go_wp2_with fail
        go_meet
        case rel=>exact ⟨by rw [HPF.out,Bool.and_false],rfl⟩
       ·obtain ⟨j,hj⟩ : ∃ j,k = j + 1:=⟨k - 1,by omega⟩
        have hpp : ∃ pn : List UInt8,w.cell? ⟨g,o + j * 4,none⟩ = some (.string (st pn))∧prev = decide (pn = []):=by have:=HP.out;subst hj;exact this
        obtain ⟨pn,hpc,hpe⟩:=hpp
        rw [← BL2.out.cell (p:=⟨g,_,none⟩) hgl] at hpc
        have hkj : (k : Int) - 1 = j:=by omega
        have hj0 : (0 : Int)≤j:=by omega
        have hjl : (j : Int) < f.len:=by omega
        have HPE:=Lib.hid hpe
        have hpn : pn = [] ∨ pn.isEmpty = false:=by
         cases pn with
         | nil=>exact .inl rfl
         | cons _ _=>exact .inr rfl
        clear hj hpe
        rcases HEN.out with hn | hn
        ·have hne : n.isEmpty = true:=by rw [hn];rfl
         have HN:=Lib.hid hn
         clear hn
         rcases hpn with hp | hp
         ·have hpe : pn.isEmpty = true:=by rw [hp];rfl
          have HPN:=Lib.hid hp
          clear hp
          go_wp2_with fail
          go_meet
          case rel=>exact ⟨by rw [HPE.out,HN.out,HPN.out];rfl,rfl⟩
         ·have HPN:=Lib.hid (show pn ≠ [] by rintro rfl;cases hp)
          go_wp2_with fail
          go_meet
          case rel=>exact ⟨by rw [HPE.out,decide_eq_false HPN.out,Bool.and_false],rfl⟩
        ·have HN:=Lib.hid (show n ≠ [] by rintro rfl;cases hn)
         clear hpn
         go_wp2_with fail
         go_meet
         case rel=>exact ⟨by rw [decide_eq_false HN.out,Bool.false_and],rfl⟩
      case rest =>
       obtain ⟨rfl,hw⟩:=hcut
       subst hw
       cases hb : (decide (n = []) && prev) with
       | true =>
        have HE : Hid (Mk.checkF f names false = 4):=by
         show _ = _
         rw [HD2.out,if_pos]
         rw [Bool.and_eq_true] at hb
         exact ⟨of_decide_eq_true hb.1,hb.2⟩
        clear hb HD2
        go_wp2_with fail
        go_ret
        exact ⟨ret_int (by rw [HE.out]),BL2.out⟩
       | false =>
        have HD3 : Hid (Mk.checkF f names false = if Mk.checkF kk (names++[n]) false ≠ 0 then Mk.checkF kk (names++[n]) false else Mk.checkF (f.drop (k + 1)) names (decide (n = []))):=by
         show _ = _
         rw [HD2.out,if_neg]
         rintro ⟨q1,q2⟩
         rw [decide_eq_true q1,q2] at hb;cases hb
        clear hb HD2 HP HEN
        go_upto_region 9 with fail
        have hsz2:=BL2.out.size
        have hwz : wr.heap.size < w2.heap.size:=Blk.lt PB2.out
        have hfr : ∀ W,Below w2.heap.size w2 W→W.cell? ⟨wr.heap.size,0,none⟩ = some (.string (st n))∧W.cell? ⟨wr.heap.size,3,none⟩ = some (.slice aok kk.len capk):=fun W hW=>⟨(hW.cell (p:=⟨wr.heap.size,0,none⟩) hwz).trans p0,(hW.cell (p:=⟨wr.heap.size,3,none⟩) hwz).trans p3⟩
        have HFR:=Lib.hid hfr
        have hcl : ∀ W,Below w2.heap.size w2 W→Calls Tryz.prog 78 #[vn] W fun e w'=>∃ v',e = .returned v'∧w'.ownsRow W.heap.size 9 1 v' names.length (strVs names)∧Below W.heap.size W w':=fun W hW=>tr_Clone names vn K W (hvn.below hK (BL2.out.trans (hW.mono hsz2))) (by omega)
        have HCL:=Lib.hid hcl
        have hrc : ∀ W v9,Below w2.heap.size w2 W→StrsV W (fun b=>b < W.heap.size) v9 (names++[n])→Calls Tryz.prog 45 #[.slice aok kk.len capk,v9] W fun e w'=>e = .returned (.int .i64 (Mk.checkF kk (names++[n]) false))∧Below W.heap.size W w':=by
         intro W v9 hW hs9
         have hb0:=BL2.out.trans (hW.mono hsz2)
         exact ih kk (names++[n]) _ v9 (fun b=>b < W.heap.size) W (by omega) (by rw [List.length_append,List.length_singleton];omega) ((HVK.out.below hK hb0).frame (fun b hb=>⟨Nat.lt_of_lt_of_le (hK b hb) hb0.size,rfl⟩)) hs9 (fun _ h=>h)
        have HRC:=Lib.hid hrc
        generalize Mk.checkF kk (names++[n]) false = cr at HD3 HRC
        obtain ⟨i0,hi,hz0,hz1,hz2⟩:=info_parts Tryz.infoStr
        have hnl9 : names.length≤33554432:=by omega
        clear hfr hcl hrc hdb hkb
        go_region_held3 (fun w'=>w'.cell? ⟨wr.heap.size,0,none⟩ = some (.string (st n))∧w'.cell? ⟨wr.heap.size,3,none⟩ = some (.slice aok kk.len capk)) (first
         | exact HFR.out _ hB10
         | exact HFR.out _ hB9
         | exact HFR.out _ (hB7.alloc hB7.size _)
         | exact HFR.out _ hB7
         | exact HFR.out _ ((Below.refl _ _).drew)
         | exact HFR.out _ (((Below.refl _ _).drew).alloc (Nat.le_refl _) _)) (first | (go_at_call 78;refine (HCL.out _ ?_).mono ?_;(first | exact (Below.refl _ _).drew | exact ((Below.refl _ _).drew).alloc (Nat.le_refl _) _);rintro e w7 ⟨v7,rfl,ow7,hb7⟩;have hB7 : Below w2.heap.size w2 w7:=(by first | exact ((Below.refl _ _).drew).trans (hb7.mono (Nat.le_refl _)) | exact (((Below.refl _ _).drew).alloc (Nat.le_refl _) _).trans (hb7.mono (by simp)));(try (have n0 : w7.cell? ⟨w2.heap.size,0,none⟩ = some (.string (st n)):=(hb7.cell (p:=⟨w2.heap.size,0,none⟩) (by simp)).trans (Blk.cell (Blk.new w2.drew 9 #[.string (st n)]) 0)))) | (refine wp_append_fresh_step rfl (.tmp 41) (.tmp 44) 54 rfl w2.drew.heap.size 9 i0 (.string ⟨#[]⟩) 1 16 Tryz.underlying54 hi hz0 hz1 hz2 rfl (by decide) v7 names.length (strVs names) (by simp [Act.eval,Act.put]) (own_ap' ow7 ((Ap.refl (fun _=>False) w7).alloc (.cells #[.string (st n)] 9)) (fun _ _ q=>q)) ⟨w7.heap.size,0,none⟩ 1 1 [.string (st n)] (by simp [Act.eval,Act.put]) rfl (cell_one_new _ _ _) (one_cell _ rfl) (by decide) (by unfold maxLen;omega) (by omega) (by have:=hB7.size;simp;omega) ?_;intro v9 w9 hown9 hg9 hf9;have hB9 : Below w2.heap.size w2 w9:=((hB7.alloc hB7.size (.cells #[.string (st n)] 9)).grown hg9 (by have:=hB7.size;simp;omega) (fun k9 hk9=>(ow7.lt k9 hk9).1));have SV9 : StrsV w9 (fun b=>b < w9.heap.size) v9 (names++[n]):=StrsV.of_own (B:=w2.heap.size) (e:=9) (by rw [List.length_append,show strVs (names++[n]) = strVs names++[.string (st n)] by simp [strVs]];exact ⟨hown9.1,hown9.2.imp id (fun ⟨g9,c9,r9,h1,h2,h3⟩=>⟨g9,c9,r9,h1,Nat.le_trans (Nat.le_refl _) h2,h3⟩)⟩) (fun g9 hg9'=>(hown9.lt g9 hg9').2);obtain ⟨ao9,cap9,rfl⟩:=own_slice hown9) | (refine wp_append_fresh_step rfl (.tmp 41) (.tmp 44) 54 rfl (w2.drew.alloc (.cells #[.string (st n)] 9)).heap.size 9 i0 (.string ⟨#[]⟩) 1 16 Tryz.underlying54 hi hz0 hz1 hz2 rfl (by decide) v7 names.length (strVs names) (by simp [Act.eval,Act.put]) ow7 ⟨w2.heap.size,0,none⟩ 1 1 [.string (st n)] (by simp [Act.eval,Act.put]) rfl (fun j9 u9 h9=>by have e9 : j9 = 0:=(by have q:=(List.getElem?_eq_some_iff.1 h9).1;simp at q;exact q);subst e9;have h9' : Value.string (st n) = u9:=(by simpa using h9);rw [← h9'];exact n0) (one_cell _ rfl) (by decide) (by unfold maxLen;omega) (by omega) (by have:=hb7.size;simpa using this) ?_;intro v9 w9 hown9 hg9 hf9;have hB9 : Below w2.heap.size w2 w9:=(hB7.grown hg9 hB7.size (fun k9 hk9=>Nat.le_trans (by simp) (ow7.lt k9 hk9).1));have SV9 : StrsV w9 (fun b=>b < w9.heap.size) v9 (names++[n]):=StrsV.of_own (B:=w2.heap.size) (e:=9) (by rw [List.length_append,show strVs (names++[n]) = strVs names++[.string (st n)] by simp [strVs]];exact ⟨hown9.1,hown9.2.imp id (fun ⟨g9,c9,r9,h1,h2,h3⟩=>⟨g9,c9,r9,h1,Nat.le_trans (by simp) h2,h3⟩)⟩) (fun g9 hg9'=>(hown9.lt g9 hg9').2);obtain ⟨ao9,cap9,rfl⟩:=own_slice hown9) | (go_at_call 45;refine (HRC.out _ _ hB9 SV9).mono ?_;rintro e w10 ⟨rfl,hb10⟩;have hB10:=hB9.trans (hb10.mono hB9.size)))
        all_goals
         have BL10:=Lib.hid (BL2.out.trans (hB10.mono hsz2))
         clear hB10 hB9 hB7 SV9 HRC HCL HFR
         by_cases hr0 : cr = 0
         ·subst hr0
          have HA4 : Hid (Mk.checkF f names false = Mk.checkF (f.drop (k + 1)) names (decide (n = []))):=by show _ = _;rw [HD3.out];simp
          clear HD3
          go_wp2_with fail
          go_roundw
          case rel=>exact ⟨k + 1,decide (n = []),by omega,by go_num,HA4,HP2,BL10⟩
          case measure=>simp [intOf];omega
         ·have hr1 : (cr == 0) = false:=beq_eq_false_iff_ne.2 hr0
          go_wp2_with fail
          go_ret
          exact ⟨ret_int (by rw [HD3.out,if_pos hr0]),BL10.out⟩
     ·have hc1 : (ce == 0) = false:=beq_eq_false_iff_ne.2 hc0
      go_wp2_with fail
      go_ret
      exact ⟨ret_int (by rw [HD.out,if_pos hc0]),BL2.out⟩
    ·have hke : k = f.len:=by omega
     have HE : Hid (Mk.checkF f names false = 0):=by show _ = _;rw [HA.out,hke,Mk.Fo.drop_len];rfl
     clear HA HAT
     go_wp2_with fail
     go_ret
     exact ⟨ret_int HE.out.symm,BL.out⟩
  ·subst hnil
   subst hv1
   clear HAT
   go_enter Tryz.func45,Tryz.ntmps45
   go_wp2_with fail
   go_loopw [11] (fun i wr=>i = .int .i64 0∧wr = w) (fun _ _=>0)
   case atStart=>exact ⟨rfl,rfl⟩
   case round =>
    obtain ⟨rfl,rfl⟩:=hrel
    go_wp2_with fail
    go_ret
    exact ⟨rfl,Below.refl _ _⟩
end Go.Proofs.YteidgdpaolieaaaGreatDoor

/- Appending to an empty row of the call's own, inside a region that draws its order: from any slice, be it empty or not. -/
namespace Go.Proofs.YteidgdpaolieaaaGreatDoor
open Go.RowKit
theorem atCells_one (l : List Mk.At) : ∀ u ∈ atCells l,u.oneCell' = true:=by
 intro u hu
 unfold atCells at hu
 rw [List.mem_flatMap] at hu
 obtain ⟨x,_,hx⟩:=hu
 simp at hx
 rcases hx with rfl | rfl <;> rfl
theorem blk_news {W : World} {q : Nat} {t : TypeId} {x : Value} (h : Blk W q t #[x]) : ∀ (j : Nat) (u : Value),[x][j]? = some u→W.cell? ((⟨q,0,none⟩ : Addr).add j) = some u:=by
 intro j u hu
 have e1 : (⟨q,0,none⟩ : Addr).add j = ⟨q,0 + j,none⟩:=by unfold Addr.add;split <;> simp_all
 rw [e1,Nat.zero_add,Blk.cell h j]
 simpa using hu
theorem addr_add (g o i : Nat) : (⟨g,o,none⟩ : Addr).add i = ⟨g,o + i,none⟩:=by unfold Addr.add;split <;> simp_all
theorem run_append_zero (W : World) (q : Nat) (ao : Option Addr) (c : Nat) : (Builtin.append_ #[50,50] 50 #[.slice (some ⟨q,0,none⟩) 0 0,.slice ao 0 c]).run Tryz.prog W = .ok (.slice (some ⟨q,0,none⟩) 0 0) W:=by
 cases ao <;> kernel_rfl
theorem run_append_zeroS (W : World) (q : Nat) (ao : Option Addr) (c : Nat) : (Builtin.append_ #[54,54] 54 #[.slice (some ⟨q,0,none⟩) 0 0,.slice ao 0 c]).run Tryz.prog W = .ok (.slice (some ⟨q,0,none⟩) 0 0) W:=by
 cases ao <;> kernel_rfl
theorem grownBy_refl (w : World) (r : Option Nat) : w.grownBy w r:=⟨rfl,rfl,rfl,Nat.le_refl _,fun _ _ _=>rfl⟩
theorem wp_append_row_step {P : Program} {w : World} {ops : Array Oper} {o : Oper} {a : Act} {K : Act→World→Prop} {Q : Exit→Act→World→Prop} {E : Prop} (hgd : o.guard = none) (s x : Operand) (t : TypeId)
  (ho : o.op = .call { callee:=.builtin .append,args:=#[s,x],argTypes:=#[t,t] })
  (base : Nat) (e : TypeId) (i : TypeInfo) (z : Value) (size bytes : Nat) (ht : P.underlying t = some (.slice e)) (hi : P.info? e = some i) (hz : i.zero = some z)
  (hsize : i.size = size) (hby : i.bytes = bytes) (hzs : z.cells.size = size) (hsz : 0 < size)
  (q : Nat) (hs : a.eval s = .slice (some ⟨q,0,none⟩) 0 0) (hown : w.ownsRow base e size (.slice (some ⟨q,0,none⟩) 0 0) 0 [])
  (ao : Option Addr) (m c : Nat) (news : List Value) (hx : a.eval x = .slice ao m c) (hl : news.length = m * size) (hnews : m = 0 ∨ ∃ ad,ao = some ad∧∀ j u,news[j]? = some u→w.cell? (ad.add j) = some u) (h1 : ∀ u ∈ news,u.oneCell' = true)
  (hr0 : (Builtin.append_ #[t,t] o.type #[.slice (some ⟨q,0,none⟩) 0 0,.slice ao 0 c]).run P w = .ok (.slice (some ⟨q,0,none⟩) 0 0) w) (h63 : m≤maxLen) (hbytes : m * bytes≤140737488355328) (hbase : base≤w.heap.size)
  (h : ∀ v' w',w'.ownsRow base e size v' m news→w.grownBy w' (some q)→(v'.ownBlock = some q ∨ v'.ownBlock = some w.heap.size)→K (a.put o.dst v') w') :
  if Region.wanted o (yielded ops a.tmps) = true then Oper.wp P o a w K Q else E:=by
 by_cases hm : m = 0
 ·subst hm
  have hnil : news = []:=List.eq_nil_of_length_eq_zero (by rw [hl,Nat.zero_mul])
  subst hnil
  have hw : Region.wanted o (yielded ops a.tmps) = true:=by simp [Region.wanted,hgd]
  rw [if_pos hw]
  have hfin:=h _ w hown (grownBy_refl w _) (.inl rfl)
  unfold Oper.wp execOp
  simp only [ho,resolve,invoke,builtin,Sem.run_bind,Sem.run_pure,Result.andThen_ok,List.map_toArray,List.map_cons,List.map_nil,hs,hx,hr0]
  exact hfin
 ·rcases hnews with hn | ⟨ad,rfl,hn⟩
  ·exact absurd hn hm
  ·exact wp_append_fresh_step hgd s x t ho base e i z size bytes ht hi hz hsize hby hzs hsz _ 0 [] hs hown ad m c news hx hl hn h1 (Nat.pos_of_ne_zero hm) (by rw [Nat.zero_add];exact h63) (by rw [Nat.zero_add];exact hbytes) hbase
    (fun v' w' k1 k2 k3=>h v' w' (by rw [Nat.zero_add,List.nil_append] at k1;exact k1) k2 k3)
theorem OwnF.more {w : World} {B : Nat} {K K' : Nat→Prop} {v : Value} {f : Mk.Fo} {xs : List Value} (h : OwnF w B K v f xs) (hk : ∀ b,K b→K' b) (hn : ∀ g,v.ownBlock = some g→¬ K' g) (hl : ∀ b,K' b→b < w.heap.size) : OwnF w B K' v f xs :=
 ⟨h.own,h.cells.frame (fun b hb=>⟨hk b hb,rfl⟩),hn,hl⟩
theorem StrsV.of_row {w : World} {K : Nat→Prop} {B : Nat} {e : TypeId} {ao : Option Addr} {cap : Nat} {l : List (List UInt8)} {x : List UInt8} (h : w.ownsRow B e 1 (.slice ao (l.length + 1) cap) (l.length + 1) (strVs l++[.string (st x)])) (hK : ∀ g,(Value.slice ao (l.length + 1) cap).ownBlock = some g→K g) : StrsV w K (.slice ao (l.length + 1) cap) (l++[x]):=by
 have e1 : (l++[x]).length = l.length + 1:=by simp
 have e2 : strVs (l++[x]) = strVs l++[.string (st x)]:=by simp [strVs]
 exact StrsV.of_own (e:=e) (B:=B) (by rw [e1,e2];exact h) hK
end Go.Proofs.YteidgdpaolieaaaGreatDoor

/- The plain law of CleanText: of a forest that is right all text stays, but what is in elements that go. No program in sight. -/
namespace Mk
namespace Fo
/-- what a check makes sure of: texts hold nothing, elements have no text of their own, empty elements hold nothing. -/
def right : Fo→Prop
 | nil=>True
 | node n _ t k r=>(n = []→k = nil)∧(n ≠ []→t = [])∧(emptyB n = true→k = nil)∧right k∧right r
end Fo
open Fo

theorem check_right : ∀ f names prev,checkF f names prev = 0→right f:=by
 intro f
 induction f with
 | nil=>intro _ _ _;trivial
 | node n a t k r ihk ihr =>
  intro names prev h
  unfold checkF at h
  by_cases h1 : nodeE names n a t k ≠ 0
  ·rw [if_pos h1] at h;exact absurd h h1
  rw [if_neg h1] at h
  by_cases h2 : n = []∧prev
  ·rw [if_pos h2] at h;cases h
  rw [if_neg h2] at h
  by_cases h3 : checkF k (names++[n]) false ≠ 0
  ·rw [if_pos h3] at h;exact absurd h h3
  rw [if_neg h3] at h
  have hk:=ihk _ _ (by simpa using h3)
  have hr:=ihr _ _ h
  have h1' : nodeE names n a t k = 0:=by simpa using h1
  unfold nodeE at h1'
  by_cases hn : n = []
  ·rw [if_pos hn] at h1'
   by_cases hq : t = [] ∨ a ≠ [] ∨ k ≠ nil
   ·rw [if_pos hq] at h1';cases h1'
   ·refine ⟨fun _=>?_,fun h=>absurd hn h,fun he=>?_,hk,hr⟩
    ·exact Classical.byContradiction fun hc=>hq (.inr (.inr hc))
    ·rw [hn] at he;exact absurd he (by decide)
  ·rw [if_neg hn] at h1'
   by_cases hq : t ≠ [] ∨ !isName n ∨ (emptyB n∧k ≠ nil)
   ·rw [if_pos hq] at h1';cases h1'
   ·refine ⟨fun h=>absurd h hn,fun _=>?_,fun he=>?_,hk,hr⟩
    ·exact Classical.byContradiction fun hc=>hq (.inl hc)
    ·exact Classical.byContradiction fun hc=>hq (.inr (.inr ⟨he,hc⟩))
theorem checkT_right (f : Fo) (h : checkT f = 0) : right f:=by
 unfold checkT at h
 split at h
 ·cases h
 ·exact check_right f _ _ h
end Mk

/- The plain law of trees: what is clean is right, and cleaned again it is the same; a right tree built of its own tokens is the same; what is built is right. No program in sight. -/
namespace Mk
open Fo
namespace Fo
def depth : Fo→Nat | nil=>0 | node n _ _ k r=>if n = [] then r.depth else max (k.depth + 1) r.depth
def count : Fo→Nat | nil=>0 | node _ _ _ k r=>k.count + r.count + 1
def endsT : Fo→Bool | nil=>false | node n _ _ _ nil=>decide (n = []) | node _ _ _ _ (node m b u j r)=>endsT (node m b u j r)
theorem snoc_app (n : Bs) (a : List At) (t : Bs) (k : Fo) : ∀ f : Fo,¬(n = []∧endsT f = true)→snoc n a t k f = f.app (node n a t k nil)
 | nil,_=>rfl
 | node n' a' t' k' nil,h=>by
  have h2 : ¬(n = []∧n' = []):=fun e=>h ⟨e.1,by simp [endsT,e.2]⟩
  unfold snoc
  rw [if_neg h2]
  rfl
 | node n' a' t' k' (node m b u j r),h=>by
  have h2:=snoc_app n a t k (node m b u j r) h
  show node n' a' t' k' (snoc n a t k (node m b u j r)) = node n' a' t' k' _
  rw [h2]
end Fo
/-! How many nodes, and how deep. -/
theorem size_to : ∀ (f : Fo) (m : Nat),right f→f.depth≤m→sizeF m f = (f.count,f.depth):=by
 intro f
 induction f with
 | nil=>intro m _ _;cases m <;> rfl
 | node n a t k r ihk ihr =>
  intro m h hd
  obtain ⟨g1,g2,g3,g4,g5⟩:=h
  by_cases hn : n = []
  ·have hk:=g1 hn
   subst hk
   simp only [depth,hn,if_true] at hd
   have q:=ihr m g5 hd
   cases m <;> simp [sizeF,hn,q,count,depth]
  ·simp only [depth,hn,if_false] at hd
   cases m with
   | zero=>omega
   | succ m =>
    have q:=ihr (m + 1) g5 (by omega)
    have q2:=ihk m g4 (by omega)
    simp only [sizeF,hn,if_false,q,q2,count,depth]
    congr 1
    omega
theorem size_from : ∀ (f : Fo) (m : Nat),right f→(sizeF m f).2≤m→f.depth≤m:=by
 intro f
 induction f with
 | nil=>intro m _ _;exact Nat.zero_le _
 | node n a t k r ihk ihr =>
  intro m h hd
  obtain ⟨g1,g2,g3,g4,g5⟩:=h
  by_cases hn : n = []
  ·have e : (sizeF m (node n a t k r)).2 = (sizeF m r).2:=by cases m <;> simp [sizeF,hn]
   rw [e] at hd
   simp only [depth,hn,if_true]
   exact ihr m g5 hd
  ·cases m with
   | zero =>
    simp only [sizeF,hn,if_false] at hd
    omega
   | succ m =>
    simp only [sizeF,hn,if_false] at hd
    have q:=ihr (m + 1) g5 (by omega)
    have q2:=ihk m g4 (by omega)
    simp only [depth,hn,if_false]
    omega
/-! What is right. -/
theorem checkF_node (n : Bs) (a : List At) (t : Bs) (k r : Fo) (names : List Bs) (prev : Bool) : checkF (node n a t k r) names prev = 0 ↔ nodeE names n a t k = 0∧¬(n = []∧prev = true)∧checkF k (names++[n]) false = 0∧checkF r names (decide (n = [])) = 0:=by
 rw [checkF]
 by_cases h1 : nodeE names n a t k = 0
 ·rw [if_neg (by simpa using h1)]
  by_cases h2 : n = []∧prev = true
  ·rw [if_pos h2]
   exact ⟨fun h=>(by cases h),fun h=>absurd h2 h.2.1⟩
  ·rw [if_neg h2]
   by_cases h3 : checkF k (names++[n]) false = 0
   ·rw [if_neg (by simpa using h3)]
    exact ⟨fun h=>⟨h1,h2,h3,h⟩,fun h=>h.2.2.2⟩
   ·rw [if_pos h3]
    exact ⟨fun h=>absurd h h3,fun h=>absurd h.2.2.1 h3⟩
 ·rw [if_pos h1]
  exact ⟨fun h=>absurd h h1,fun h=>absurd h.1 h1⟩
theorem nodeE_el (names : List Bs) (n : Bs) (hn : n ≠ []) (a : List At) (t : Bs) (k : Fo) : nodeE names n a t k = 0 ↔ t = []∧isName n = true∧(emptyB n = true→k = nil)∧checkAts isName [] a = 0∧names.length≤stays names n:=by
 unfold nodeE
 rw [if_neg hn]
 by_cases h : t ≠ [] ∨ (!isName n) = true ∨ (emptyB n = true∧k ≠ nil)
 ·rw [if_pos h]
  refine ⟨fun e=>(by cases e),fun e=>?_⟩
  rcases h with h | h | h
  ·exact absurd e.1 h
  ·rw [e.2.1] at h;cases h
  ·exact absurd (e.2.2.1 h.1) h.2
 ·rw [if_neg h]
  have f1 : t = []:=Classical.byContradiction fun e=>h (.inl e)
  have f2 : isName n = true:=by
   cases q : isName n with
   | true=>rfl
   | false=>exact absurd (.inr (.inl (by rw [q];rfl))) h
  have f3 : emptyB n = true→k = nil:=fun q=>Classical.byContradiction fun e=>h (.inr (.inr ⟨q,e⟩))
  by_cases h4 : checkAts isName [] a = 0
  ·rw [if_neg (by simpa using h4)]
   by_cases h5 : stays names n < names.length
   ·rw [if_pos h5]
    exact ⟨fun e=>(by cases e),fun e=>absurd h5 (Nat.not_lt.2 e.2.2.2.2)⟩
   ·rw [if_neg h5]
    exact ⟨fun _=>⟨f1,f2,f3,h4,Nat.not_lt.1 h5⟩,fun _=>rfl⟩
  ·rw [if_pos h4]
   exact ⟨fun e=>absurd e h4,fun e=>absurd e.2.2.2.1 h4⟩
/-- names ahead of the innermost of a name. -/
def findR (x : Bs) (q : Bs→Bool) : List Bs→Option (List Bs)
 | []=>none
 | n :: r=>if n = x then some r else if q n then none else findR x q r
theorem aboveR_find (x : Bs) (q : Bs→Bool) : ∀ l,aboveR x q l = (findR x q l).map List.length
 | []=>rfl
 | n :: r=>by
  unfold aboveR findR
  by_cases h : n = x
  ·rw [if_pos h,if_pos h];rfl
  ·rw [if_neg h,if_neg h]
   by_cases h2 : q n = true
   ·rw [if_pos h2,if_pos h2];rfl
   ·rw [if_neg h2,if_neg h2];exact aboveR_find x q r
theorem findR_suf (x : Bs) (q : Bs→Bool) : ∀ l r,findR x q l = some r→∃ m,l = m++x :: r
 | [],_,h=>by cases h
 | n :: l,r,h=>by
  unfold findR at h
  by_cases h1 : n = x
  ·rw [if_pos h1] at h
   injection h with h
   exact ⟨[],by rw [h1,h];rfl⟩
  ·rw [if_neg h1] at h
   by_cases h2 : q n = true
   ·rw [if_pos h2] at h;cases h
   ·rw [if_neg h2] at h
    obtain ⟨m,e⟩:=findR_suf x q l r h
    exact ⟨n :: m,by rw [e];rfl⟩
theorem cutTo_find (x : Bs) (q : Bs→Bool) (l : List Bs) : cutTo l.reverse (above x q l.reverse) = ((findR x q l).getD l).reverse:=by
 unfold above
 rw [List.reverse_reverse,aboveR_find]
 cases h : findR x q l with
 | none=>rfl
 | some r =>
  obtain ⟨m,e⟩:=findR_suf x q l r h
  show l.reverse.take r.length = r.reverse
  rw [e]
  simp
def li : Bs:=[108,105]
def staysR (l : List Bs) (n : Bs) : List Bs :=
 let l1:=if blockB n then (findR [112] wallB l).getD l else l
 if n == li then (findR li listB l1).getD l1 else l1
theorem stays_R (l : List Bs) (n : Bs) : stays l.reverse n = (staysR l n).length:=by
 unfold stays staysR
 simp only
 have e : (if blockB n = true then cutTo l.reverse (above [112] wallB l.reverse) else l.reverse) = (if blockB n = true then (findR [112] wallB l).getD l else l).reverse:=by
  by_cases h : blockB n = true
  ·rw [if_pos h,if_pos h,cutTo_find]
  ·rw [if_neg h,if_neg h]
 rw [e]
 generalize (if blockB n = true then (findR [112] wallB l).getD l else l) = l1
 show (if (n == li) = true then cutTo l1.reverse (above li listB l1.reverse) else l1.reverse).length = _
 by_cases h : (n == li) = true
 ·rw [if_pos h,if_pos h,cutTo_find,List.length_reverse]
 ·rw [if_neg h,if_neg h,List.length_reverse]
/-- names that let one in. -/
def Fine (l : List Bs) (n : Bs) : Prop:=(blockB n = true→findR [112] wallB l = none)∧(n = li→findR li listB l = none)
theorem fine_stays {l : List Bs} {n : Bs} (h : Fine l n) : staysR l n = l:=by
 unfold staysR
 have e : (if blockB n = true then (findR [112] wallB l).getD l else l) = l:=by
  by_cases q : blockB n = true
  ·rw [if_pos q,h.1 q];rfl
  ·rw [if_neg q]
 simp only [e]
 by_cases q : (n == li) = true
 ·rw [if_pos q,h.2 (by simpa using q)];rfl
 ·rw [if_neg q]
theorem find_len (x : Bs) (q : Bs→Bool) (l : List Bs) : ((findR x q l).getD l).length≤l.length∧(findR x q l ≠ none→((findR x q l).getD l).length < l.length):=by
 cases h : findR x q l with
 | none=>exact ⟨Nat.le_refl _,fun q=>absurd rfl q⟩
 | some r =>
  obtain ⟨m,e⟩:=findR_suf x q l r h
  have : r.length < l.length:=by rw [e];simp;omega
  exact ⟨Nat.le_of_lt this,fun _=>this⟩
theorem stays_fine {l : List Bs} {n : Bs} (h : l.length≤(staysR l n).length) : Fine l n:=by
 have hl : ∀ l1 : List Bs,(if (n == li) = true then (findR li listB l1).getD l1 else l1).length≤l1.length:=fun l1=>by
  split
  ·exact (find_len ..).1
  ·exact Nat.le_refl _
 have h1 : blockB n = true→findR [112] wallB l = none:=fun q=>Classical.byContradiction fun c=>by
  have f:=(find_len [112] wallB l).2 c
  unfold staysR at h
  simp only [q,if_true] at h
  have:=hl ((findR [112] wallB l).getD l)
  omega
 refine ⟨h1,fun q=>Classical.byContradiction fun c=>?_⟩
 have hb : blockB n = true:=by rw [q];decide
 have f:=(find_len li listB l).2 c
 unfold staysR at h
 simp only [hb,if_true,h1 hb,Option.getD_none] at h
 rw [if_pos (by simpa using q)] at h
 omega
theorem hasAt_app (l : List At) (a : At) (n : Bs) : hasAt (l++[a]) n = (hasAt l n || a.n == n):=by simp [hasAt]
theorem checkAts_cons (seen : List At) (a : At) (r : List At) : checkAts isName seen (a :: r) = 0 ↔ isName a.n = true∧hasAt seen a.n = false∧checkAts isName (seen++[a]) r = 0:=by
 rw [checkAts]
 cases h1 : isName a.n with
 | false=>simp
 | true =>
  cases h2 : hasAt seen a.n with
  | true=>simp
  | false=>simp
/-! What is clean stays so. -/
/-! What is clean is safe. -/
end Mk

/- The plain law of the builder: what is built is right; a right tree built of its own tokens is the same. No program in sight. -/
namespace Mk
open Fo
namespace Bld
def R (root : Fo) (ops : List Op) : Bld:=⟨root,ops.reverse⟩
def rs (root : Fo) (ops : List Op) (g : Fo) : Fo:=match ops with | []=>g | _ :: _=>root
def os (ops : List Op) (g : Fo) : List Op:=match ops with | []=>[] | o :: r=>{ o with kids:=g } :: r
def cur (root : Fo) (ops : List Op) : Fo:=match ops with | []=>root | o :: _=>o.kids
def nmOf (ops : List Op) : List Bs:=(ops.map (·.name)).reverse
theorem cur_set (root : Fo) (ops : List Op) (g : Fo) : cur (rs root ops g) (os ops g) = g:=by cases ops <;> rfl
theorem nm_set (ops : List Op) (g : Fo) : nmOf (os ops g) = nmOf ops:=by cases ops <;> rfl
theorem len_set (ops : List Op) (g : Fo) : (os ops g).length = ops.length:=by cases ops <;> rfl
theorem rs_set (root : Fo) (ops : List Op) (g h : Fo) : rs (rs root ops g) (os ops g) h = rs root ops h:=by cases ops <;> rfl
theorem os_set (ops : List Op) (g h : Fo) : os (os ops g) h = os ops h:=by cases ops <;> rfl
theorem putIn_R (root : Fo) (ops : List Op) (n : Bs) (a : List At) (t : Bs) (k : Fo) : (R root ops).putIn n a t k = R (rs root ops (snoc n a t k (cur root ops))) (os ops (snoc n a t k (cur root ops))):=by
 cases ops with
 | nil=>rfl
 | cons o r=>simp [putIn,R,rs,os,cur]
theorem pop_R (root : Fo) (o : Op) (r : List Op) : (R root (o :: r)).pop = (R root r).putIn o.name o.ats [] o.kids:=by simp [pop,R]
theorem names_R (root : Fo) (ops : List Op) : (R root ops).names = nmOf ops:=by simp [names,R,nmOf]
theorem open_R (root : Fo) (ops : List Op) : (R root ops).open_.length = ops.length:=by simp [R]
theorem nm_len (ops : List Op) : (nmOf ops).length = ops.length:=by simp [nmOf]
theorem nm_cons (o : Op) (r : List Op) : nmOf (o :: r) = nmOf r++[o.name]:=by simp [nmOf]
theorem push_R (root : Fo) (ops : List Op) (o : Op) : ({ R root ops with open_:=(R root ops).open_++[o] } : Bld) = R root (o :: ops):=by simp [R]
/-! What is built is right. -/
theorem staysR_drop (l : List Bs) (n : Bs) : staysR l n = l.drop (l.length - (staysR l n).length):=by
 have hd : ∀ (x : Bs) (q : Bs→Bool) (l : List Bs),∃ m,l = m++(findR x q l).getD l:=fun x q l=>by
  cases h : findR x q l with
  | none=>exact ⟨[],rfl⟩
  | some r =>
   obtain ⟨m,e⟩:=findR_suf x q l r h
   exact ⟨m++[x],by rw [e];simp⟩
 have h1 : ∃ m,l = m++(if blockB n = true then (findR [112] wallB l).getD l else l):=by
  split
  ·exact hd _ _ l
  ·exact ⟨[],rfl⟩
 have h2 : ∃ m,l = m++staysR l n:=by
  obtain ⟨m,e⟩:=h1
  unfold staysR
  simp only
  generalize (if blockB n = true then (findR [112] wallB l).getD l else l) = l1 at e ⊢
  split
  ·obtain ⟨m2,e2⟩:=hd li listB l1
   exact ⟨m++m2,by rw [List.append_assoc,← e2];exact e⟩
  ·exact ⟨m,e⟩
 obtain ⟨m,e⟩:=h2
 have : l.length - (staysR l n).length = m.length:=by
  have:=congrArg List.length e
  simp at this
  omega
 rw [this]
 conv=>rhs;rw [e]
 simp
def TokOk (t : Tok) : Prop:=(t.kind = 1∧t.name = []∧t.ats = []∧t.text ≠ []) ∨ (t.kind = 2∧isName t.name = true∧checkAts isName [] t.ats = 0∧t.text = []) ∨ (t.kind = 3∧isName t.name = true∧t.ats = []∧t.text = [])
theorem name_ne {n : Bs} (h : isName n = true) : n ≠ []:=by
 rintro rfl
 exact absurd h (by decide)
end Bld
end Mk
