/- Contract of the reference's ResolveOf: it returns just what the plain Lean function says. Condition: a base and a link of at most 3000 bytes. -/
import Derived.Test.YteidgdpaolieaaaGreatDoorYUrlQ
import Derived.Test.YteidgdpaolieaaaGreatDoorYUrlI
import Derived.StillTailTactics
import Derived.Deep.CutBlock
set_option linter.unusedVariables false
set_option linter.unusedSimpArgs false
namespace Go.Proofs.YteidgdpaolieaaaGreatDoor
open Go.RowKit

def t0U (b u : Mg.U) : Mg.U:={ sch:=b.sch,au:=b.au,pa:=[],qu:=u.qu,fr:=u.fr,hs:=true,ha:=b.ha,hq:=u.hq,hf:=u.hf }
/-- the state of ResolveOf: the base, the link, what has been told. -/
structure RfSt (w wk : World) (V : Nat) (b u t : Mg.U) : Prop where
 below : Below w.heap.size w wk
 low : w.heap.size≤V
 bb : Blk wk V 66 (uCells b)
 uu : Blk wk (V + 1) 66 (uCells u)
 tt : Blk wk (V + 1 + 1) 66 (uCells t)
theorem RfSt.start {w w2 : World} (b u t : Mg.U) (hb : Below w.heap.size w w2) : RfSt w (((w2.alloc (.cells (uCells b) 66)).alloc (.cells (uCells u) 66)).alloc (.cells (uCells t) 66)) w2.heap.size b u t:=by
 have hz:=hb.size
 have e1 : (w2.alloc (.cells (uCells b) 66)).heap.size = w2.heap.size + 1:=by simp
 have e2 : ((w2.alloc (.cells (uCells b) 66)).alloc (.cells (uCells u) 66)).heap.size = w2.heap.size + 1 + 1:=by simp
 have b1:=Blk.new w2 66 (uCells b)
 have b2:=Blk.new (w2.alloc (.cells (uCells b) 66)) 66 (uCells u)
 have b3:=Blk.new ((w2.alloc (.cells (uCells b) 66)).alloc (.cells (uCells u) 66)) 66 (uCells t)
 rw [e1] at b2
 rw [e2] at b3
 exact ⟨((hb.alloc hz _).alloc (by omega) _).alloc (by omega) _,hz,(b1.alloc _).alloc _,b2.alloc _,b3⟩
section
variable {w wk : World} {V : Nat} {b u t : Mg.U}
theorem RfSt.drewN (h : RfSt w wk V b u t) (n : Nat) : RfSt w (wk.drewN n) V b u t:=⟨below_drewN h.below n,h.low,h.bb.drewN n,h.uu.drewN n,h.tt.drewN n⟩
theorem RfSt.drew (h : RfSt w wk V b u t) : RfSt w wk.drew V b u t:=⟨h.below.drew,h.low,h.bb.drew,h.uu.drew,h.tt.drew⟩
theorem RfSt.put (h : RfSt w wk V b u t) (i : Nat) (v : Value) (t' : Mg.U) (ht : (uCells t).setIfInBounds i v = uCells t') : RfSt w (wk.setCell ⟨V + 1 + 1,i,none⟩ v) V b u t' :=
 ⟨h.below.setCell (by have:=h.low;show _≤V + 1 + 1;omega) _,h.low,h.bb.far (by show _ ≠ V + 1 + 1;omega) _,h.uu.far (by show _ ≠ V + 1 + 1;omega) _,by rw [← ht];exact h.tt.set_ i v⟩
theorem RfSt.bcell (h : RfSt w wk V b u t) (i : Nat) : wk.cell? ⟨V,i,none⟩ = (uCells b)[i]?:=h.bb.cell i
theorem RfSt.ucell (h : RfSt w wk V b u t) (i : Nat) : wk.cell? ⟨V + 1,i,none⟩ = (uCells u)[i]?:=h.uu.cell i
theorem RfSt.tcell (h : RfSt w wk V b u t) (i : Nat) : wk.cell? ⟨V + 1 + 1,i,none⟩ = (uCells t)[i]?:=h.tt.cell i
end

section
variable {b u : Mg.U}
theorem resU_1 (h : u.hs = true) : Mg.resU b u = { sch:=u.sch,au:=u.au,pa:=Mg.dots u.pa,qu:=u.qu,fr:=u.fr,hs:=true,ha:=u.ha,hq:=u.hq,hf:=u.hf }:=by
 unfold Mg.resU;rw [if_pos h,← h]
theorem resU_2 (h : u.hs = false) (h2 : u.ha = true) : Mg.resU b u = { sch:=b.sch,au:=u.au,pa:=Mg.dots u.pa,qu:=u.qu,fr:=u.fr,hs:=true,ha:=true,hq:=u.hq,hf:=u.hf }:=by
 unfold Mg.resU;rw [if_neg (by simp [h]),if_pos h2,← h2]
theorem resU_3t (h : u.hs = false) (h2 : u.ha = false) (h3 : u.pa = []) (h4 : u.hq = true) : Mg.resU b u = { sch:=b.sch,au:=b.au,pa:=Mg.dots b.pa,qu:=u.qu,fr:=u.fr,hs:=true,ha:=b.ha,hq:=u.hq,hf:=u.hf }:=by
 unfold Mg.resU;rw [if_neg (by simp [h]),if_neg (by simp [h2]),if_pos h3,if_pos h4,if_pos h4,h4]
theorem resU_3f (h : u.hs = false) (h2 : u.ha = false) (h3 : u.pa = []) (h4 : u.hq = false) : Mg.resU b u = { sch:=b.sch,au:=b.au,pa:=Mg.dots b.pa,qu:=b.qu,fr:=u.fr,hs:=true,ha:=b.ha,hq:=b.hq,hf:=u.hf }:=by
 unfold Mg.resU;rw [if_neg (by simp [h]),if_neg (by simp [h2]),if_pos h3,if_neg (by simp [h4]),if_neg (by simp [h4])]
theorem resU_4 (h : u.hs = false) (h2 : u.ha = false) (h3 : u.pa ≠ []) : Mg.resU b u = { sch:=b.sch,au:=b.au,pa:=Mg.dots (if Mg.isAt 47 u.pa then u.pa else Mg.mergeP b u),qu:=u.qu,fr:=u.fr,hs:=true,ha:=b.ha,hq:=u.hq,hf:=u.hf }:=by
 unfold Mg.resU;rw [if_neg (by simp [h]),if_neg (by simp [h2]),if_neg h3]
end
/-- a text up to its last slash. -/
def lcut (l : List UInt8) : List UInt8:=(l.reverse.dropWhile (· != 47)).reverse
theorem lcut_hit (l : List UInt8) : lcut (l++[47]) = l++[47]:=by simp [lcut]
theorem lcut_miss (l : List UInt8) (c : UInt8) (h : c ≠ 47) : lcut (l++[c]) = lcut l:=by simp [lcut,h]
theorem merge_1 {b : Mg.U} (u : Mg.U) (h : b.ha = true) (h2 : b.pa = []) : Mg.mergeP b u = 47 :: u.pa:=by simp [Mg.mergeP,h,h2]
theorem merge_2 {b : Mg.U} (u : Mg.U) (h : (b.ha && b.pa.isEmpty) = false) : Mg.mergeP b u = lcut b.pa++u.pa:=by unfold Mg.mergeP lcut;rw [h];rfl

set_option maxHeartbeats 2000000 in
set_option maxRecDepth 100000 in
theorem ref_ResolveOf (base s : ByteArray) (w : World) (hb : base.size≤3000) (hs : s.size≤3000) :
  Calls Tryz.prog 73 #[.string base,.string s] w fun e w'=>e = .returned (.tuple #[.string (st (Mg.join (Mg.resU (Mg.split base.data.toList) (Mg.split s.data.toList)))),.bool (Mg.joinOk (Mg.resU (Mg.split base.data.toList) (Mg.split s.data.toList)))])∧Below w.heap.size w w':=by
 go_enter Tryz.func73,Tryz.ntmps73
 go_wp2_with fail
 refine (ref_SplitOf _ _ (by omega)).mono ?_
 rintro e w1 ⟨rfl,hb1⟩
 have lb:=split_le base.data.toList
 have ls:=split_le s.data.toList
 have nb : base.data.toList.length = base.size:=bs_len base
 have ns : s.data.toList.length = s.size:=bs_len s
 obtain ⟨b,hbb⟩ : ∃ b,Mg.split base.data.toList = b:=⟨_,rfl⟩
 obtain ⟨u,huu⟩ : ∃ u,Mg.split s.data.toList = u:=⟨_,rfl⟩
 rw [hbb] at lb ⊢
 rw [huu] at ls
 have HB:=Lib.hid hbb;have HU:=Lib.hid huu
 clear hbb huu
 obtain ⟨lb1,lb2,lb3,lb4,lb5⟩:=lb
 obtain ⟨ls1,ls2,ls3,ls4,ls5⟩:=ls
 rw [nb] at lb1 lb2 lb3 lb4 lb5
 rw [ns] at ls1 ls2 ls3 ls4 ls5
 clear nb ns
 go_wp2_with fail
 refine (ref_SplitOf _ _ (by omega)).mono ?_
 rintro e w2 ⟨rfl,hb2⟩
 rw [HU.out]
 have l2:=hb1.trans (hb2.mono hb1.size)
 clear hb1 hb2
 have hp:=RfSt.start b u (t0U b u) l2
 unfold uVal
 go_upto_block 0 with fail
 change Code.wp _ _ _ _ (((w2.alloc (.cells (uCells b) 66)).alloc (.cells (uCells u) 66)).alloc (.cells (uCells (t0U b u)) 66))
 generalize ((w2.alloc (.cells (uCells b) 66)).alloc (.cells (uCells u) 66)).alloc (.cells (uCells (t0U b u)) 66) = w3 at hp ⊢
 generalize w2.heap.size = V at hp ⊢
 clear l2
 have zb : (st b.pa).size≤3000:=by rw [st_size];omega
 have zu : (st u.pa).size≤3000:=by rw [st_size];omega
 have hst : ∀ l,(st l).toList = l:=fun l=>Lib.toList_data _
 go_cut [] (fun wx=>RfSt w wx V b u (Mg.resU b u))
 case first =>
  have b1 : w3.cell? ⟨V,1,none⟩ = some (.string (st b.au)):=hp.bcell 1
  have b2 : w3.cell? ⟨V,2,none⟩ = some (.string (st b.pa)):=hp.bcell 2
  have b3 : w3.cell? ⟨V,3,none⟩ = some (.string (st b.qu)):=hp.bcell 3
  have b6 : w3.cell? ⟨V,6,none⟩ = some (.bool b.ha):=hp.bcell 6
  have b7 : w3.cell? ⟨V,7,none⟩ = some (.bool b.hq):=hp.bcell 7
  have u0 : w3.cell? ⟨V + 1,0,none⟩ = some (.string (st u.sch)):=hp.ucell 0
  have u1 : w3.cell? ⟨V + 1,1,none⟩ = some (.string (st u.au)):=hp.ucell 1
  have u2 : w3.cell? ⟨V + 1,2,none⟩ = some (.string (st u.pa)):=hp.ucell 2
  have u5 : w3.cell? ⟨V + 1,5,none⟩ = some (.bool u.hs):=hp.ucell 5
  have u6 : w3.cell? ⟨V + 1,6,none⟩ = some (.bool u.ha):=hp.ucell 6
  have u7 : w3.cell? ⟨V + 1,7,none⟩ = some (.bool u.hq):=hp.ucell 7
  have c0 : w3.cell? ⟨V + 1 + 1,0,none⟩ = some (.string (st b.sch)):=hp.tcell 0
  have c1 : w3.cell? ⟨V + 1 + 1,1,none⟩ = some (.string (st b.au)):=hp.tcell 1
  have c2 : w3.cell? ⟨V + 1 + 1,2,none⟩ = some (.string (st [])):=hp.tcell 2
  have c3 : w3.cell? ⟨V + 1 + 1,3,none⟩ = some (.string (st u.qu)):=hp.tcell 3
  have c6 : w3.cell? ⟨V + 1 + 1,6,none⟩ = some (.bool b.ha):=hp.tcell 6
  have c7 : w3.cell? ⟨V + 1 + 1,7,none⟩ = some (.bool u.hq):=hp.tcell 7
  have ft : ∀ i,w3.frozen? ⟨V + 1 + 1,i,none⟩ = false:=hp.tt.frozen
  clear lb1 lb2 lb3 lb4 lb5 ls1 ls2 ls3 ls4 ls5
  cases hhs : u.hs with
  | true =>
   rw [hhs] at u5
   have HR:=Lib.hid (resU_1 (b:=b) hhs)
   clear hhs
   go_wp2_with fail
   go_region
   go_wp2_with fail
   refine (ref_DotsOf _ _ (by omega)).mono ?_
   rintro e w4 ⟨rfl,n,rfl⟩
   go_wp2_with fail
   go_meet
   case rel =>
    rw [HR.out]
    exact ((((hp.put 0 _ { t0U b u with sch:=u.sch } rfl).put 6 _ { t0U b u with sch:=u.sch,ha:=u.ha } rfl).put 1 _ { t0U b u with sch:=u.sch,ha:=u.ha,au:=u.au } rfl).drewN (1 + n)).put 2 _ _ rfl
  | false =>
  rw [hhs] at u5
  cases hha : u.ha with
  | true =>
   rw [hha] at u6
   have HR:=Lib.hid (resU_2 (b:=b) hhs hha)
   clear hhs hha
   go_wp2_with fail
   go_region
   go_wp2_with fail
   refine (ref_DotsOf _ _ (by omega)).mono ?_
   rintro e w4 ⟨rfl,n,rfl⟩
   go_wp2_with fail
   go_meet
   case rel =>
    rw [HR.out]
    exact (((hp.put 6 _ { t0U b u with ha:=true } rfl).put 1 _ { t0U b u with ha:=true,au:=u.au } rfl).drewN (1 + n)).put 2 _ _ rfl
  | false =>
  rw [hha] at u6
  by_cases hpa : u.pa = []
  ·rw [hpa] at u2
   cases hhq : u.hq with
   | true =>
    have HR:=Lib.hid (resU_3t (b:=b) hhs hha hpa hhq)
    rw [hhq] at u7
    clear hhs hha hpa hhq
    go_wp2_with fail
    refine (ref_DotsOf _ _ (by omega)).mono ?_
    rintro e w4 ⟨rfl,n,rfl⟩
    go_wp2_with fail
    go_meet
    case rel =>
     rw [HR.out]
     exact (hp.drewN n).put 2 _ _ rfl
   | false =>
    have HR:=Lib.hid (resU_3f (b:=b) hhs hha hpa hhq)
    rw [hhq] at u7
    clear hhs hha hpa hhq
    go_wp2_with fail
    refine (ref_DotsOf _ _ (by omega)).mono ?_
    rintro e w4 ⟨rfl,n,rfl⟩
    go_wp2_with fail
    go_region
    go_wp2_with fail
    go_meet
    case rel =>
     rw [HR.out]
     exact ((((hp.drewN n).put 2 _ { t0U b u with pa:=Mg.dots b.pa } rfl).put 7 (.bool b.hq) { t0U b u with pa:=Mg.dots b.pa,hq:=b.hq } rfl).put 3 (.string (st b.qu)) { t0U b u with pa:=Mg.dots b.pa,hq:=b.hq,qu:=b.qu } rfl).drew
  ·have H4:=resU_4 (b:=b) hhs hha hpa
   have he : u.pa.isEmpty = false:=by
    cases h : u.pa with
    | nil=>exact absurd h hpa
    | cons _ _=>rfl
   have h0 : 0 < (st u.pa).size:=List.length_pos_iff.2 hpa
   have hi0:=isAt_drop (st u.pa) 0 h0 47
   rw [List.drop_zero,bs_st] at hi0
   clear hhs hha hpa
   cases hsl : Mg.isAt 47 u.pa with
   | true =>
    rw [hsl] at H4 hi0
    rw [if_pos rfl] at H4
    have HR:=Lib.hid H4
    have hib : (((st u.pa)[0].toNat : Int) == 47) = true:=hi0.symm
    clear H4 hi0 hsl
    go_wp2_with fail
    refine (ref_DotsOf _ _ (by omega)).mono ?_
    rintro e w4 ⟨rfl,n,rfl⟩
    go_wp2_with fail
    go_meet
    case rel =>
     rw [HR.out]
     exact (hp.drewN n).put 2 _ _ rfl
   | false =>
   rw [hsl] at H4 hi0
   rw [if_neg (by simp)] at H4
   have hib : (((st u.pa)[0].toNat : Int) == 47) = false:=hi0.symm
   clear hi0 hsl
   by_cases hc : b.ha = true∧b.pa = []
   ·obtain ⟨h1,h2⟩:=hc
    rw [merge_1 u h1 h2] at H4
    rw [h1] at b6
    rw [h2] at b2
    have HR:=Lib.hid H4
    clear H4 h1 h2
    go_wp2_with fail
    rw [show (⟨#[47]⟩ : ByteArray)++st u.pa = st (47 :: u.pa) from app_st (st [47]) (st u.pa)]
    refine (ref_DotsOf _ _ (by rw [st_size] at zu ⊢;rw [List.length_cons];omega)).mono ?_
    rintro e w4 ⟨rfl,n,rfl⟩
    go_wp2_with fail
    go_meet
    case rel =>
     rw [HR.out]
     exact (hp.drewN n).put 2 _ _ rfl
   ·have HNF : Hid ((b.ha && b.pa.isEmpty) = false):=by
     show _ = _
     cases hx : b.ha with
     | false=>rfl
     | true =>
      cases hy : b.pa with
      | nil=>exact absurd ⟨hx,hy⟩ hc
      | cons _ _=>rfl
    rw [merge_2 u HNF.out] at H4
    have HR:=Lib.hid H4
    have two : b.ha = false ∨ b.ha = true∧b.pa.isEmpty = false:=by
     have:=HNF.out
     cases hx : b.ha with
     | false=>exact .inl rfl
     | true=>rw [hx] at this;exact .inr ⟨rfl,by simpa using this⟩
    clear H4 hc HNF
    have common : ∀ k : Nat,k≤(st b.pa).size→(st b.pa).size≤3000:=fun _ _=>zb
    clear common
    rcases two with hba | ⟨hba,hbe⟩
    all_goals
     rw [hba] at b6
     clear hba
     go_wp2_with fail
     go_loop [9] (fun v=>∃ k : Nat,k≤(st b.pa).size∧v = .int .i64 k∧Hid (lcut b.pa = lcut (b.pa.take k))) (fun v=>(intOf v).toNat)
     case atStart=>exact ⟨(st b.pa).size,Nat.le_refl _,rfl,by show _ = _;rw [st_size,List.take_length]⟩
     case round =>
      obtain ⟨k,hk,rfl,hl⟩:=hrel
      have hzu : (st u.pa).size≤3000:=zu
      rcases Nat.eq_zero_or_pos k with rfl | hk0
      ·have HX : Hid (lcut b.pa = b.pa.take 0):=by show _ = _;rw [hl.out];rfl
       clear hl
       have hkk : (0 : Int)≤(st b.pa).size:=by omega
       have hq2 : ¬ 9223372036854775807 < ((st b.pa).extract 0 (0)).size + (st u.pa).size:=by rw [ByteArray.size_extract];omega
       have hsz : (st (b.pa.take (0)++u.pa)).size≤6000:=by rw [st_size] at zb zu;rw [st_size,List.length_append,List.length_take];omega
       have hap : (st b.pa).extract 0 (0)++st u.pa = st (b.pa.take (0)++u.pa):=by rw [extract_pre,app_st];rfl
       have HA:=Lib.hid hap
       clear hap
       go_upto_region 6 with fail
       go_still_tail 6,(by kernel_rfl)
       change wpList _ _ _ _ _ w3.drew
       have hpd:=hp.drew
       generalize w3.drew = w4 at hpd ⊢
       have e2 : w4.cell? ⟨V + 1 + 1,2,none⟩ = some (.string (st [])):=hpd.tcell 2
       have fd : ∀ i,w4.frozen? ⟨V + 1 + 1,i,none⟩ = false:=hpd.tt.frozen
       clear b1 b2 b3 b6 b7 u0 u1 u2 u5 u6 u7 c0 c1 c2 c3 c6 c7 ft
       go_wp2_with fail
       try rw [HA.out]
       refine (ref_DotsOf _ _ (by omega)).mono ?_
       rintro e w5 ⟨rfl,n,rfl⟩
       go_wp2_with fail
       go_meet
       case rel =>
        rw [HR.out,HX.out]
        exact (hpd.drewN n).put 2 _ _ rfl
      ·obtain ⟨j,rfl⟩ : ∃ j,k = j + 1:=⟨k - 1,by omega⟩
       have hjl : j < (st b.pa).size:=hk
       have hsn : b.pa.take (j + 1) = b.pa.take j++[(st b.pa)[j]]:=bs_take (st b.pa) j hjl
       by_cases hc : (st b.pa)[j] = 47
       ·have HX : Hid (lcut b.pa = b.pa.take (j + 1)):=by show _ = _;rw [hl.out,hsn,hc,lcut_hit]
        have hcb : (((st b.pa)[j].toNat : Int) != 47) = false:=by rw [hc];rfl
        clear hl hsn hc
        go_upto_region 6 with fail
        obtain ⟨m,hm⟩ : ∃ m : Nat,m = j + 1:=⟨_,rfl⟩
        have hm1 : ((j : Int) + 1) = (m : Int):=by omega
        rw [← hm] at hk HX
        try rw [hm1]
        try rw [← hm]
        clear hm1 hm hcb
        have hkk : (m : Int)≤(st b.pa).size:=by omega
        have hq2 : ¬ 9223372036854775807 < ((st b.pa).extract 0 m).size + (st u.pa).size:=by rw [ByteArray.size_extract];omega
        have hsz : (st (b.pa.take m++u.pa)).size≤6000:=by rw [st_size] at zb zu;rw [st_size,List.length_append,List.length_take];omega
        have hap : (st b.pa).extract 0 m++st u.pa = st (b.pa.take m++u.pa):=by rw [extract_pre,app_st];rfl
        have HA:=Lib.hid hap
        clear hap
        go_still_tail 6,(by kernel_rfl)
        change wpList _ _ _ _ _ w3.drew
        have hpd:=hp.drew
        generalize w3.drew = w4 at hpd ⊢
        have e2 : w4.cell? ⟨V + 1 + 1,2,none⟩ = some (.string (st [])):=hpd.tcell 2
        have fd : ∀ i,w4.frozen? ⟨V + 1 + 1,i,none⟩ = false:=hpd.tt.frozen
        clear b1 b2 b3 b6 b7 u0 u1 u2 u5 u6 u7 c0 c1 c2 c3 c6 c7 ft
        go_wp2_with fail
        try rw [HA.out]
        refine (ref_DotsOf _ _ (by omega)).mono ?_
        rintro e w5 ⟨rfl,n,rfl⟩
        go_wp2_with fail
        go_meet
        case rel =>
         rw [HR.out,HX.out]
         exact (hpd.drewN n).put 2 _ _ rfl
       ·have HX : Hid (lcut b.pa = lcut (b.pa.take j)):=by show _ = _;rw [hl.out,hsn,lcut_miss _ _ hc]
        have hcb : (((st b.pa)[j].toNat : Int) != 47) = true:=by rw [bne_iff_ne];intro e;exact hc (UInt8.toNat_inj.1 (by show (st b.pa)[j].toNat = 47;omega))
        clear hl hsn hc
        go_wp2_with fail
        go_round
        case rel=>exact ⟨j,by omega,by first | rfl | (congr 1;omega),HX⟩
        case measure=>simp [intOf];try omega
 case rest =>
  have hp4:=hcut
  clear hcut hp
  obtain ⟨t,ht⟩ : ∃ t,Mg.resU b u = t:=⟨_,rfl⟩
  have hrl:=rU2_le b u
  have hrp:=rPath_le b u
  have hrd:=Mg.dots_len (rPath b u)
  have hru:=rU_res b u
  rw [ht] at hp4 hru
  have htl : t.sch.length + t.au.length + t.pa.length + t.qu.length + t.fr.length≤1048576:=by
   rw [← hru]
   show (rU2 b u).sch.length + (rU2 b u).au.length + (Mg.dots (rPath b u)).length + (rU2 b u).qu.length + (rU2 b u).fr.length≤1048576
   obtain ⟨r1,r2,r3,r4⟩:=hrl
   omega
  have HT:=Lib.hid ht
  clear ht hrl hrp hrd hru lb1 lb2 lb3 lb4 lb5 ls1 ls2 ls3 ls4 ls5
  have c0 : wc.cell? ⟨V + 1 + 1,0,none⟩ = some (.string (st t.sch)):=hp4.tcell 0
  have c1 : wc.cell? ⟨V + 1 + 1,1,none⟩ = some (.string (st t.au)):=hp4.tcell 1
  have c2 : wc.cell? ⟨V + 1 + 1,2,none⟩ = some (.string (st t.pa)):=hp4.tcell 2
  have c3 : wc.cell? ⟨V + 1 + 1,3,none⟩ = some (.string (st t.qu)):=hp4.tcell 3
  have c4 : wc.cell? ⟨V + 1 + 1,4,none⟩ = some (.string (st t.fr)):=hp4.tcell 4
  have c5 : wc.cell? ⟨V + 1 + 1,5,none⟩ = some (.bool t.hs):=hp4.tcell 5
  have c6 : wc.cell? ⟨V + 1 + 1,6,none⟩ = some (.bool t.ha):=hp4.tcell 6
  have c7 : wc.cell? ⟨V + 1 + 1,7,none⟩ = some (.bool t.hq):=hp4.tcell 7
  have c8 : wc.cell? ⟨V + 1 + 1,8,none⟩ = some (.bool t.hf):=hp4.tcell 8
  go_wp2_with fail
  refine (ref_JoinOf t _ htl).mono ?_
  rintro e w5 ⟨rfl,hb5⟩
  have l5:=hp4.below.trans (hb5.mono hp4.below.size)
  clear hb5 hp4 c0 c1 c2 c3 c4 c5 c6 c7 c8
  go_wp2_with fail
  go_ret2
  exact ⟨by rw [HB.out,HU.out,HT.out];rfl,l5⟩
end Go.Proofs.YteidgdpaolieaaaGreatDoor
