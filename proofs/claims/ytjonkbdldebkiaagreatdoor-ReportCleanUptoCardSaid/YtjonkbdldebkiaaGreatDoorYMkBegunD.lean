/- Contract of the law's cleanBegun: what must be in any case, is. -/
import Derived.Test.YtjonkbdldebkiaaGreatDoorYMkHtml
import Derived.Test.YtjonkbdldebkiaaGreatDoorYWdB
import Derived.Test.YtjonkbdldebkiaaGreatDoorYWeC
import Derived.Test.YtjonkbdldebkiaaGreatDoorYMkSame
import Derived.Test.YtjonkbdldebkiaaGreatDoorYUrlPlain
import Derived.Test.YtjonkbdldebkiaaGreatDoorYMkRep6
import Derived.Test.YtjonkbdldebkiaaGreatDoorYMkStay4
set_option linter.unusedVariables false
set_option linter.unusedSimpArgs false
namespace Mk
def base0 : Bs:=[104,116,116,112,58,47,47,97,47,98]
def s0 : Bs:=[60,115,101,99,116,105,111,110,62,60,112,32,111,110,99,108,105,99,107,61,120,62,97,60,115,99,114,105,112,116,62,98,60,47,115,99,114,105,112,116,62,60,97,32,104,114,101,102,61,99,62,100,60,47,97,62,60,97,32,104,114,101,102,61,39,106,97,118,97,115,99,114,105,112,116,58,101,39,62,102,60,47,97,62,60,105,109,103,62,103]
def want0 : Bs:=[60,112,62,97,60,97,32,104,114,101,102,61,34,104,116,116,112,58,47,47,97,47,99,34,62,100,60,47,97,62,60,97,62,102,60,47,97,62,103,60,47,112,62]
set_option maxRecDepth 100000
theorem html0 : html base0 s0 = want0:=by decide +kernel
theorem fits0 : Fits base0 s0:=⟨by decide,by decide +kernel,by decide +kernel,by decide +kernel,by rw [html0];decide⟩
def short (s : Bs) : Bool:=decide (s.length < 32) && s.all fun b=>(reps.lookup b).isNone
def tokShort (t : Tok) : Bool:=short t.text && t.ats.all fun a=>short a.v
theorem flat0 : (flat (clean base0 (build (toks s0)))).all tokShort = true:=by decide +kernel
theorem page_check : checkT page = 0:=by decide +kernel
theorem page_clean : clean [] page = page:=by decide +kernel
theorem page_safe : safeF page = true:=by decide +kernel
def script : Fo:=.node [115,99,114,105,112,116] [] [] .nil .nil
theorem script_check : checkT script = 0:=by decide +kernel
theorem script_safe : safeF script = false:=by decide +kernel
end Mk
namespace Go.Proofs.YtjonkbdldebkiaaGreatDoor
open Go.RowKit
theorem tells_of {s : List UInt8} (h : Mk.short s = true) : Tells s:=by
 unfold Mk.short at h
 rw [Bool.and_eq_true,decide_eq_true_iff,List.all_eq_true] at h
 exact tells_short s h.1 (fun b hb=>Option.isNone_iff_eq_none.1 (h.2 b hb))
theorem tells0 : ∀ t ∈ Mk.flat (Mk.clean Mk.base0 (Mk.build (Mk.toks Mk.s0))),TokTells t:=by
 intro t ht
 have h:=List.all_eq_true.1 Mk.flat0 t ht
 unfold Mk.tokShort at h
 rw [Bool.and_eq_true,List.all_eq_true] at h
 exact ⟨fun _=>tells_of h.1,fun a ha=>tells_of (h.2 a ha)⟩
set_option maxHeartbeats 4000000 in
set_option maxRecDepth 100000 in
theorem lw_cleanBegun (w : World) (hg : Gl w) :
  Calls Tryz.prog 17 #[] w fun e w'=>e = .returned (.bool true)∧Below w.heap.size w w':=by
 have hlt:=hg.lt
 have HH:=Lib.hid (cl_Html Mk.base0 Mk.s0 w hg (by decide) Mk.fits0 tells0)
 rw [Mk.html0,show Mk.want0 = [60,112,62,97,60,97,32,104,114,101,102,61,34,104,116,116,112,58,47,47,97,47,99,34,62,100,60,47,97,62,60,97,62,102,60,47,97,62,103,60,47,112,62] from rfl] at HH
 go_enter Tryz.func17,Tryz.ntmps17
 go_wp2_with fail
 refine HH.out.mono ?_
 rintro e w1 ⟨rfl,hb1⟩
 have B1:=Lib.hid hb1
 clear HH hb1
 go_wp2_with fail
 refine (lw_page w1).mono ?_
 rintro e w2 ⟨v2,rfl,hv2,hb2⟩
 have B2:=Lib.hid (B1.out.trans (hb2.mono B1.out.size))
 have HT:=Lib.hid (cl_Tree [] Mk.page v2 _ w2 (by decide) hv2 (fun b q=>q.2))
 clear hb2 hv2
 go_wp2_with fail
 refine HT.out.mono ?_
 rintro e w3 ⟨v3,c,rfl,hc,_,hv3,hb3⟩
 rw [Mk.page_check,if_neg (by decide),if_neg (by decide)] at hc
 subst hc
 have hv3:=hv3 rfl
 rw [Mk.page_clean] at hv3
 have B3:=Lib.hid (B2.out.trans (hb3.mono B2.out.size))
 have HV3 : Hid (FoV w3 (fun b=>b < w3.heap.size) v3 Mk.page):=hv3.frame (fun b q=>⟨q.elim (fun q=>Nat.lt_of_lt_of_le q.2 hb3.size) (fun q=>q.2),rfl⟩)
 obtain ⟨ao3,cap3,xs3,hv3s,_⟩:=hv3
 subst hv3s
 clear hb3 HT
 go_wp2_with fail
 refine (lw_page w3).mono ?_
 rintro e w4 ⟨v4,rfl,hv4,hb4⟩
 have B4:=Lib.hid (B3.out.trans (hb4.mono B3.out.size))
 have HI:=Lib.hid (cl_Is Mk.page v4 _ w4 (by decide) hv4 (fun b q=>q.2))
 rw [Mk.page_check,Mk.page_safe,show (decide ((0 : Int) = 0) && true) = true from rfl] at HI
 have HV4 : Hid (FoV w4 (fun b=>b < w4.heap.size) (.slice ao3 Mk.page.len cap3) Mk.page):=HV3.out.frame (fun b q=>⟨Nat.lt_of_lt_of_le q hb4.size,hb4.block b q⟩)
 clear hb4 hv4 HV3
 go_wp2_with fail
 refine HI.out.mono ?_
 rintro e w5 ⟨rfl,hb5⟩
 have B5:=Lib.hid (B4.out.trans (hb5.mono B4.out.size))
 have HV5 : Hid (FoV w5 (fun b=>b < w5.heap.size) (.slice ao3 Mk.page.len cap3) Mk.page):=HV4.out.frame (fun b q=>⟨Nat.lt_of_lt_of_le q hb5.size,hb5.block b q⟩)
 clear hb5 HI HV4
 have hal:=(Below.refl w5.heap.size w5).alloc (Nat.le_refl _) (.cells (nodeCells [115,99,114,105,112,116] [] (.slice none 0 0)++[]).toArray 53)
 have HS : FoV (w5.alloc (.cells (nodeCells [115,99,114,105,112,116] [] (.slice none 0 0)++[]).toArray 53)) (fun b=>b = w5.heap.size) (.slice (some ⟨w5.heap.size,0,none⟩) 1 1) Mk.script:=FoV.of_blk (K:=fun b=>b = w5.heap.size) (f:=Mk.script) (Blk.new w5 53 (nodeCells [115,99,114,105,112,116] [] (.slice none 0 0)++[]).toArray) rfl (FCells.one (k:=.nil) (r:=.nil) (FoV.nil0 _ _) (FCells.nil0 _ _)) (by decide)
 have HI:=Lib.hid (cl_Is Mk.script _ _ _ (by decide) HS (fun b q=>by subst q;simp))
 rw [Mk.script_check,Mk.script_safe,show (decide ((0 : Int) = 0) && false) = false from rfl] at HI
 have HAL:=Lib.hid hal
 clear hal HS
 go_wp2_with fail
 refine HI.out.mono ?_
 rintro e w6 ⟨rfl,hb6⟩
 have L6:=Lib.hid (HAL.out.trans (hb6.mono HAL.out.size))
 have B6:=Lib.hid (B5.out.trans (L6.out.mono B5.out.size))
 have HV6 : Hid (FoV w6 (fun b=>b < w6.heap.size) (.slice ao3 Mk.page.len cap3) Mk.page):=HV5.out.frame (fun b q=>⟨Nat.lt_of_lt_of_le q L6.out.size,L6.out.block b q⟩)
 clear hb6 HI HV5
 have hst : ∀ l : List UInt8,(st l).toList = l:=fun l=>Lib.toList_data _
 clear hv3 B5 B4 B3 B2 B1 HAL L6
 go_wp2_with fail
 refine (lw_page w6).mono ?_
 rintro e w7 ⟨v7,rfl,hv7,hb7⟩
 have B7:=Lib.hid (B6.out.trans (hb7.mono B6.out.size))
 have HV7 : FoV w7 (fun b=>b < w7.heap.size) (.slice ao3 Mk.page.len cap3) Mk.page:=HV6.out.frame (fun b q=>⟨Nat.lt_of_lt_of_le q hb7.size,hb7.block b q⟩)
 have HSN:=Lib.hid (rf_SameNodes (Mk.page.bulk + 1) Mk.page (Nat.lt_succ_self _) (by decide) _ v7 _ _ w7 HV7 hv7 (fun b q=>q) (fun b q=>q.2))
 clear hb7 hv7 HV7 HV6 B6
 go_wp2_with fail
 refine HSN.out.mono ?_
 rintro e w8 ⟨rfl,hb8⟩
 have B8:=Lib.hid (B7.out.trans (hb8.mono B7.out.size))
 clear hb8 HSN B7
 go_wp2_with fail
 go_ret
 exact ⟨rfl,B8.out⟩
end Go.Proofs.YtjonkbdldebkiaaGreatDoor

/- Contracts of the program's Html at any texts: what is clean, or that they are too long. -/
namespace Go.Proofs.YtjonkbdldebkiaaGreatDoor
open Go.RowKit
theorem tells_html (base s : List UInt8) (hs : s.length≤3000) : ∀ t ∈ Mk.flat (Mk.clean base (Mk.build (Mk.toks s))),TokTells t:=by
 intro t ht
 have h1:=Mk.toks_bulk s
 have h2:=Mk.build_bulk (Mk.toks s)
 have h3:=Mk.clean_bulk base (Mk.build (Mk.toks s))
 obtain ⟨h4,h5⟩:=Mk.flat_mem _ t ht
 exact ⟨fun _=>tells_any _ (by omega),fun a ha=>tells_any _ (by have:=h5 a ha;omega)⟩
theorem cl_Html_ok (base s : List UInt8) (w : World) (hg : Gl w) (hb : base.length≤3000) (hs : s.length≤3000) :
  Calls Tryz.prog 19 #[.string (st base),.string (st s)] w fun e w'=>e = .returned (.tuple #[.string (st (Mk.html base s)),.int .i64 0])∧Below w.heap.size w w' :=
 cl_Html base s w hg hb (Mk.fits base s hs) (tells_html base s hs)
end Go.Proofs.YtjonkbdldebkiaaGreatDoor

/- Contract of the law ReportClean: a page is clean, as Html it stays as it is; each entry has its line in it, in order. Condition: ids of at most 1048576 letters; the library's variables are as they were laid. -/
namespace Fd
def x0 : En:=⟨[105],[97,60,98],[104,116,116,112,58,47,47,104],1,[60,98,62,99,60,47,98,62]⟩
theorem x0_right : checkEn x0 = 0:=begun_line2.1
theorem x0_line : lineE toldP x0 = [60,108,105,62,60,97,32,104,114,101,102,61,34,104,116,116,112,58,47,47,104,34,62,97,38,108,116,59,98,60,47,97,62,32,49,57,55,48,45,48,49,45,48,49,84,48,48,58,48,48,58,48,49,90,60,112,62,99,60,47,112,62,60,47,108,105,62]:=begun_lineP
theorem none_right : checkSh ⟨[],[]⟩ = 0:=by decide
theorem none_page : pageS toldP ⟨[],[]⟩ = [60,117,108,62,60,47,117,108,62]:=rfl
end Fd
namespace Go.Proofs.YtjonkbdldebkiaaGreatDoor
open Go.RowKit
set_option maxHeartbeats 8000000 in
set_option maxRecDepth 100000 in
theorem lw_reportBegun (w : World) (hg : Gl w) (hp : Pow w) :
  Calls Tryz.prog 16 #[] w fun e w'=>e = .returned (.bool true)∧Below w.heap.size w w':=by
 have hst : ∀ l : List UInt8,(st l).toList = l:=fun l=>Lib.toList_data _
 have HL:=Lib.hid (rp_Line Fd.x0 w hg hp)
 rw [Fd.x0_right,if_pos rfl,Fd.x0_line] at HL
 have HPG : Hid (∀ W,Gl W→Pow W→Calls Tryz.prog 15 #[.agg #[.slice none 0 0,.slice none 0 0]] W fun e w'=>e = .returned (.tuple #[.string (st [60,117,108,62,60,47,117,108,62]),.int .i64 0])∧Below W.heap.size W w'):=by
  intro W h1 h2
  have h:=rp_Page ⟨[],[]⟩ (.slice none 0 0) (.slice none 0 0) (fun _=>False) W h1 h2 (EntsV.nil _ _) (StrsV.nil _ _) (fun b q=>q.elim) (fun x q=>by cases q)
  rw [Fd.none_right,if_pos rfl,Fd.none_page] at h
  exact h
 have HG:=Lib.hid hg
 have HP:=Lib.hid hp
 have hlt:=hg.lt
 clear hg hp
 go_enter Tryz.func16,Tryz.ntmps16
 go_wp2_with fail
 refine HL.out.mono ?_
 rintro e w1 ⟨rfl,hb1⟩
 have B1:=Lib.hid hb1
 have HPQ:=Lib.hid (HPG.out w1 (HG.out.below hb1 hlt) (HP.out.below hb1))
 clear hb1 HL
 go_wp2_with fail
 refine HPQ.out.mono ?_
 rintro e w2 ⟨rfl,hb2⟩
 have B2:=Lib.hid (B1.out.trans (hb2.mono B1.out.size))
 clear hb2 HPQ
 go_wp2_with fail
 go_ret
 exact ⟨ret_bool rfl,B2.out⟩
set_option maxHeartbeats 16000000 in
set_option maxRecDepth 100000 in
theorem lw_ReportClean (s : Fd.Sh) (ve vr : Value) (K : Nat→Prop) (w : World) (hg : Gl w) (hp : Pow w) (hve : EntsV w K ve s.es) (hvr : StrsV w K vr s.rd) (hK : ∀ b,K b→b < w.heap.size) (hid : ∀ x ∈ s.es,x.id.length≤1048576) :
  Calls Tryz.prog 4 #[.agg #[ve,vr]] w fun e w'=>e = .returned (.bool true)∧Below w.heap.size w w':=by
 have hst : ∀ l : List UInt8,(st l).toList = l:=fun l=>Lib.toList_data _
 obtain ⟨aoe,cape,he1,_,_,hem⟩:=id hve
 obtain ⟨aor,capr,hr1,_⟩:=id hvr
 subst he1;subst hr1
 obtain ⟨g,o,cap,hKg,hev,hcl⟩:=hve.at_
 have hal:=(Below.refl w.heap.size w).alloc (Nat.le_refl _) (.cells #[.slice aoe s.es.length cape,.slice aor s.rd.length capr] 26)
 have XB:=Lib.hid (Blk.new w 26 #[.slice aoe s.es.length cape,.slice aor s.rd.length capr])
 have BL1:=Lib.hid hal
 have hlt:=hg.lt
 have HPG:=Lib.hid (rp_Page s _ _ K _ (hg.alloc (.cells #[.slice aoe s.es.length cape,.slice aor s.rd.length capr] 26)) (hp.below hal) (hve.below hK hal) (hvr.frame (fun b q=>⟨q,hal.block b (hK b q)⟩)) (fun b q=>Nat.lt_of_lt_of_le (hK b q) hal.size) hid)
 have HCL:=Lib.hid hcl
 have HEV:=Lib.hid hev
 have HKG:=Lib.hid hKg
 have HK:=Lib.hid hK
 have HGP : Hid (∀ W,Below w.heap.size w W→Gl W∧Pow W):=fun W hW=>⟨hg.below hW hlt,hp.below hW⟩
 have hel : s.es.length≤9223372036854775807:=by unfold maxLen at hem;omega
 have HSH:=Lib.hid (Fd.checkSh_iff s).1
 have HCP:=Lib.hid (Fd.page_clean Fd.toldP s)
 have HPE : Hid (Fd.pageS Fd.toldP s = [60,117,108,62]++s.es.flatMap (Fd.lineE Fd.toldP)++[60,47,117,108,62]):=rfl
 generalize Fd.pageS Fd.toldP s = pg at HPE HPG HCP ⊢
 obtain ⟨d,hd⟩ : ∃ d,Fd.checkSh s = d:=⟨_,rfl⟩
 rw [hd] at HPG HSH HCP
 obtain ⟨pv,hpv⟩ : ∃ v,(if d = 0 then pg else []) = v:=⟨_,rfl⟩
 rw [hpv] at HPG
 have HPV:=Lib.hid hpv
 clear hpv
 clear hal hg hp hd hve hvr hK hid hcl hev hKg hem
 obtain ⟨es,rd⟩:=s
 simp only at HPG HCL HEV HKG HPE XB BL1 hel ⊢
 go_enter Tryz.func4,Tryz.ntmps4
 go_wp2_with fail
 refine HPG.out.mono ?_
 rintro e w2 ⟨rfl,hb2⟩
 have BL2:=Lib.hid (BL1.out.trans (hb2.mono BL1.out.size))
 have XB2:=Lib.hid (Blk.below XB.out hb2 (Blk.lt XB.out))
 clear hb2 HPG BL1 XB
 have HRB:=Lib.hid (lw_reportBegun w2 (HGP.out w2 BL2.out).1 (HGP.out w2 BL2.out).2)
 go_wp2_with fail
 refine HRB.out.mono ?_
 rintro e w3 ⟨rfl,hb3⟩
 have BL3:=Lib.hid (BL2.out.trans (hb3.mono BL2.out.size))
 have XB3:=Lib.hid (Blk.below XB2.out hb3 (Blk.lt XB2.out))
 have HCB:=Lib.hid (lw_cleanBegun w3 (HGP.out w3 BL3.out).1)
 clear hb3 HRB BL2 XB2
 go_wp2_with fail
 refine HCB.out.mono ?_
 rintro e w4 ⟨rfl,hb4⟩
 have BL4:=Lib.hid (BL3.out.trans (hb4.mono BL3.out.size))
 have XB4:=Lib.hid (Blk.below XB3.out hb4 (Blk.lt XB3.out))
 clear hb4 HCB BL3 XB3
 by_cases q1 : d = 0
 ·obtain ⟨hs1,_,hs2,_⟩:=HSH.out q1
  have HR : Hid (∀ x ∈ es,Fd.checkEn x = 0):=hs2.1
  have HCQ:=Lib.hid (HCP.out q1)
  have e0 : pg = pv:=by rw [← HPV.out,if_pos q1]
  clear HPV
  subst e0
  have he20 : es.length≤20:=hs1
  subst q1
  have hpl : pg.length≤671088700:=by
   have h1:=lines_len es HR.out
   rw [HPE.out]
   simp only [List.length_append,List.length_cons,List.length_nil]
   omega
  clear hs1 hs2 HSH HCP
  have x0 : w4.cell? ⟨w.heap.size,0,none⟩ = some (.slice aoe es.length cape):=Blk.cell XB4.out 0
  go_wp2_with fail
  clear x0
  go_loopw [5,6] (fun u i wr=>∃ k : Nat,k≤es.length∧u = .string (st ([60,117,108,62]++(es.take k).flatMap (Fd.lineE Fd.toldP)))∧i = .int .i64 k∧Hid (Below w.heap.size w wr)∧Hid (Blk wr w.heap.size 26 #[.slice aoe es.length cape,.slice aor rd.length capr])) (fun _ i _=>es.length - (intOf i).toNat)
  case atStart=>exact ⟨0,Nat.zero_le _,rfl,rfl,BL4,XB4⟩
  case round =>
   clear BL4 XB4
   obtain ⟨k,hk,rfl,rfl,BL,XB⟩:=hrel
   have x0 : wr.cell? ⟨w.heap.size,0,none⟩ = some (.slice aoe es.length cape):=Blk.cell XB.out 0
   have hlen : ([60,117,108,62]++(es.take k).flatMap (Fd.lineE Fd.toldP)).length≤671088644:=by
    have h1:=lines_len (es.take k) (fun x q=>HR.out x (List.mem_of_mem_take q))
    have h2 : (es.take k).length≤20:=by rw [List.length_take];omega
    simp only [List.length_append,List.length_cons,List.length_nil]
    omega
   by_cases hlt2 : k < es.length
   ·obtain ⟨hv1,hKg⟩ : Value.slice aoe es.length cape = .slice (some ⟨g,o,none⟩) es.length cap∧K g:=by
     rcases HEV.out with q | ⟨ao,_,q⟩
     ·exact ⟨q,HKG.out (by intro e;rw [e] at hlt2;exact absurd hlt2 (Nat.not_lt_zero _))⟩
     ·rw [q] at hlt2;exact absurd hlt2 (Nat.not_lt_zero _)
    injection hv1 with e1 _ e3
    subst e1;subst e3
    obtain ⟨c0,c1,c2,c3,c4⟩:=HCL.out k hlt2
    have hgl2:=HK.out g hKg
    rw [← BL.out.cell (p:=⟨g,_,none⟩) hgl2] at c0 c1 c2 c3 c4
    have HX:=Lib.hid (HR.out es[k] (List.getElem_mem hlt2))
    have HST:=Lib.hid (Fd.page_step Fd.toldP es k hlt2)
    obtain ⟨x,hx⟩ : ∃ x,es[k] = x:=⟨_,rfl⟩
    rw [hx] at c0 c1 c2 c3 c4 HX HST
    have hxl:=line_len x HX.out
    have HLN:=Lib.hid (rp_Line x wr (HGP.out wr BL.out).1 (HGP.out wr BL.out).2)
    rw [HX.out,if_pos rfl] at HLN
    obtain ⟨l1,hl1⟩ : ∃ l1,[60,117,108,62]++(es.take k).flatMap (Fd.lineE Fd.toldP) = l1:=⟨_,rfl⟩
    have HN : Hid ([60,117,108,62]++(es.take (k + 1)).flatMap (Fd.lineE Fd.toldP) = l1++Fd.lineE Fd.toldP x):=by show _ = _;rw [HST.out,← List.append_assoc,hl1]
    rw [hl1] at hlen ⊢
    clear hl1 HST hx
    generalize Fd.lineE Fd.toldP x = le at HLN hxl HN
    have q : ¬ 9223372036854775807 < (st l1).size + (st le).size:=by rw [st_size,st_size];omega
    go_wp2_with fail
    refine HLN.out.mono ?_
    rintro e w5 ⟨rfl,hb5⟩
    have BL5:=Lib.hid (BL.out.trans (hb5.mono BL.out.size))
    have XB5:=Lib.hid (Blk.below XB.out hb5 (Blk.lt XB.out))
    clear hb5 HLN c0 c1 c2 c3 c4 x0
    go_wp2_with fail
    go_roundw
    case rel=>exact ⟨k + 1,by omega,by rw [HN.out,← st_app2],by go_num,BL5,XB5⟩
    case measure=>simp [intOf];omega
   ·have hke : k = es.length:=by omega
    have HE : Hid ([60,117,108,62]++(es.take k).flatMap (Fd.lineE Fd.toldP)++[60,47,117,108,62] = pg):=by show _ = _;rw [hke,List.take_length,HPE.out]
    generalize [60,117,108,62]++(es.take k).flatMap (Fd.lineE Fd.toldP) = l1 at hlen HE ⊢
    have q : ¬ 9223372036854775807 < (st l1).size + 5:=by rw [st_size];omega
    have hcat : st l1++(⟨#[60,47,117,108,62]⟩ : ByteArray) = st pg:=by rw [show (⟨#[60,47,117,108,62]⟩ : ByteArray) = st [60,47,117,108,62] from rfl,st_app2,HE.out]
    clear hke
    by_cases q2 : 3000 < pg.length
    ·have s2 : 3000 < (st pg).size:=by rw [st_size];exact q2
     clear q2
     go_wp2_with fail
     go_ret
     exact ⟨ret_bool rfl,BL.out⟩
    ·have s2 : ¬ 3000 < (st pg).size:=by rw [st_size];exact q2
     have HHT:=Lib.hid (cl_Html_ok [] pg wr (HGP.out wr BL.out).1 (by decide) (by omega))
     rw [HCQ.out] at HHT
     clear q2
     go_wp2_with fail
     refine HHT.out.mono ?_
     rintro e w5 ⟨rfl,hb5⟩
     have BL5:=Lib.hid (BL.out.trans (hb5.mono BL.out.size))
     clear hb5 HHT
     go_wp2_with fail
     go_ret
     exact ⟨ret_bool (by simp),BL5.out⟩
 ·have e1 : (d == 0) = false:=beq_eq_false_iff_ne.2 q1
  have e0 : [] = pv:=by rw [← HPV.out,if_neg q1]
  clear HSH HCP HPV
  subst e0
  go_wp2_with fail
  go_ret
  exact ⟨ret_bool rfl,BL4.out⟩
end Go.Proofs.YtjonkbdldebkiaaGreatDoor
