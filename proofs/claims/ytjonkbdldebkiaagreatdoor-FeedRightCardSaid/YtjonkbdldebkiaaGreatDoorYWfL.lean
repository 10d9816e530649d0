/- The law FeedRight over the walk. No condition. -/
import Derived.Test.YtjonkbdldebkiaaGreatDoorYWfH
import Derived.Test.YtjonkbdldebkiaaGreatDoorYRfJF
import Derived.Test.YtjonkbdldebkiaaGreatDoorYMkBegunD
import Derived.Deep.RegionHeld3
set_option linter.unusedVariables false
set_option linter.unusedSimpArgs false
set_option maxHeartbeats 8000000
set_option maxRecDepth 100000
namespace Mk
theorem z7l (text:Bs) (out:List Tok):(flush text out).length≤out.length + (if text=[] then 0 else 1):=by
 unfold flush;simp only
 split
 ·omega
 ·rename_i h
  have:text ≠ []:=by rintro rfl;exact h rfl
  rw[if_neg this,List.length_append,List.length_singleton];exact Nat.le_refl _
theorem z3x:∀ (n:Nat) (r text:Bs) (out:List Tok),r.length≤n→(z0p n r text out).length≤out.length + (if text=[] then 0 else 1) + r.length
 | 0,r,text,out,_=>by
  have e:z0p 0 r text out=flush text out:=by unfold z0p;rfl
  have:=z7l text out;rw[e];omega
 | n + 1,[],text,out,_=>by
  have e:z0p (n + 1) [] text out=flush text out:=by unfold z0p;rfl
  have:=z7l text out;rw[e];omega
 | n + 1,c :: t,text,out,h=>by
  have h:t.length≤n:=by simpa using h
  unfold z0p;rw[List.length_cons]
  split
  ·cases hh:hereAt (c :: t) with
   | text =>
    have:=z3x n t (text++[60]) out h;rw[if_neg (by simp)] at this;simp only;omega
   | stop =>
    have:=z7l (text++c :: t) out;rw[if_neg (by simp)] at this;simp only;omega
   | gone u =>
    have h1:=q2p hh;have:=z3x n u text out (by omega);simp only;omega
   | tag k u =>
    have h1:=q5x hh;have h2:=z3x n u [] (flush text out++[k]) (by omega);have h3:=z7l text out;rw[if_pos rfl,List.length_append,List.length_singleton] at h2;simp only;omega
  ·have:=z3x n t (text++[c]) out h
   rw[if_neg (by simp)] at this;omega
theorem j6i (s:Bs):(toks s).length≤s.length:=by
 have:=z3x s.length s [] [] (Nat.le_refl _);rw[if_pos rfl] at this;have e:toks s=z0p s.length s [] []:=rfl;rw[e]
 simpa using this
theorem atB_tokB {l:List Tok} {t:Tok} (h:t ∈ l):Fo.atB t.ats≤Bld.tokB l:=by
 induction l with
 | nil=>cases h
 | cons x r ih =>
  rw[Bld.z5j]
  rcases List.mem_cons.1 h with e | e
  ·rw[e];omega
  ·have:=ih e;omega
end Mk
namespace Fd
theorem j7o {x:En} (h:z0r x=0):x.li.length≤3000∧x.ht.length≤3000∧(x.li ≠ []→Mg.isSafe x.li=true)∧z5g x.ht=true:=by
 unfold z0r at h
 split at h
 ·cases h
 split at h
 ·cases h
 rename_i h2
 split at h
 ·cases h
 split at h
 ·cases h
 rename_i h4
 refine⟨by omega,by omega,fun q=>?_,?_⟩
 ·cases e:Mg.isSafe x.li with
  | true=>rfl
  | false=>exact absurd (.inl ⟨q,e⟩) h4
 ·cases e:z5g x.ht with
  | true=>rfl
  | false=>exact absurd (.inr e) h4
end Fd
namespace Go.Proofs.YtjonkbdldebkiaaGreatDoor
open Go.RowKit
theorem z14.take {w:World} {K:Nat→Prop} {ao:Option Addr} {cap:Nat} {l:List Fd.En} (h:z14 w K (.slice ao l.length cap) l) (k:Nat) (hk:k≤l.length):z14 w K (.slice ao k cap) (l.take k):=by
 obtain⟨ao',cap',h1,h2,h3,h4⟩:=h;injection h1 with e1 _ e3;subst e1;subst e3;have hlen:(l.take k).length=k:=by rw[List.length_take];omega
 refine⟨ao,cap,by rw[hlen],?_,by omega,by omega⟩
 rcases h2 with h2 | ⟨g,o,h5,h6,h7⟩
 ·have:l=[]:=List.eq_nil_of_length_eq_zero (by have:=q0p l;rw[h2] at this;simp at this;omega)
  subst this;exact .inl (by simp[Y7])
 ·refine .inr ⟨g,o,h5,h6,fun i v hi=>h7 i v ?_⟩
  have e:Y7 l=Y7 (l.take k)++Y7 (l.drop k):=by
   unfold Y7;rw[← List.flatMap_append,List.take_append_drop]
  rw[e];have hi2:i < (Y7 (l.take k)).length:=by
   rcases Nat.lt_or_ge i (Y7 (l.take k)).length with q | q
   ·exact q
   ·rw[List.getElem?_eq_none q] at hi;cases hi
  rw[List.getElem?_append_left hi2];exact hi
def RightHt (t:List UInt8):Prop:=∃ (l:List Mk.Tok) (f:Mk.Fo),Mk.toks t=l∧Mk.build l=f∧(∀ x ∈ l,Mk.Bld.z3m x∧Mk.Fo.atB x.ats≤1048576)∧Mk.Adj false l∧l.length≤3000∧Mk.Bld.tokB l≤1048576∧f.bulk≤1048576∧Mk.z6t f=true∧Mk.z2t f=true∧Mk.z4x f=0
theorem right_ht (t:List UInt8) (ht:t.length≤3000) (hs:Fd.z5g t=true):RightHt t:=by
 have hh:=Fd.j4r t hs;obtain⟨h1,h2⟩:=Mk.j9b [] t;rw[hh] at h1 h2;have hok:=Mk.q6o t;have hcnt:=Mk.j6i t;have htb:=Mk.z7e t;have hbb:=Mk.z4w (Mk.toks t);have hck0:=(Mk.Bld.q1f (Mk.toks t) (Mk.q6o t)).1;have hcc:=Mk.z8l [] _ hck0;have hal:=Mk.q9q [] (Mk.build (Mk.toks t)) hck0;have hsf:=Mk.q42 [] _ (Mk.z2f _ [] false hck0);rw[← h2] at hal hsf;have hct:=Mk.q77 (Mk.toks t) hok (by omega);have hadj:Mk.Adj false (Mk.toks t):=by
  rw[h1];have:=(Mk.j8r _ [] false hcc).2 [] trivial
  rwa [List.append_nil] at this
 exact⟨_,_,rfl,rfl,fun x hx=>⟨hok x hx,by have:=Mk.atB_tokB hx;omega⟩,hadj,by omega,by omega,by omega,hal,hsf,hct⟩
theorem q7x (base s:List UInt8) (w:World) (hg:Gl w) :
  Calls Tryz.prog 6 #[.string (st base),.string (st s)] w fun e w'=>e=.returned (.bool true)∧Below w.heap.size w w':=by
 have hlt:=hg.lt;have hst:∀ l:List UInt8,(st l).toList=l:=fun l=>Lib.toList_data _
 have HG:=Lib.hid hg;have h1:=q5u base s w hg;unfold z0c at h1;have hok:=Fd.ok_feed base s;have her:=Fd.feed_err base s;generalize Fd.z4b base s=r at h1 hok her;obtain⟨l,c⟩:=r;have H1:=Lib.hid h1;have HOK:=Lib.hid hok;clear h1 hg hok;go_enter Tryz.func6,Tryz.ntmps6;go_wp2_with fail;refine H1.out.mono ?_;rintro e w1 ⟨hb1,v1,rfl,hv1⟩;have B1:=Lib.hid hb1;obtain⟨ao,cap,hs1,_,hcl,_⟩:=id hv1;subst hs1;have HV1:Hid (z14 w1 (fun b=>b < w1.heap.size) (.slice ao l.length cap) l):=hv1.frame (fun b q=>⟨q.2,rfl⟩);clear hb1 hv1 H1;go_wp2_with fail;refine(q7y w1 (HG.out.below B1.out hlt)).mono ?_;rintro e w2 ⟨rfl,hb2⟩;have B12:=Lib.hid hb2;clear hb2;go_wp2_with fail;refine(q64 w2 (HG.out.below (B1.out.trans (B12.out.mono B1.out.size)) hlt)).mono ?_;rintro e w3 ⟨rfl,hb3⟩;have B13:=Lib.hid (B12.out.trans (hb3.mono B12.out.size));clear hb3 B12;go_wp2_with fail;refine(q7u w3).mono ?_;rintro e w4 ⟨rfl,hb4⟩;have B14:=Lib.hid (B13.out.trans (hb4.mono B13.out.size));clear hb4 B13
 by_cases hc:c=0
 case neg =>
  as_aux_lemma =>
  have hl0:l=[]:=her hc;subst hl0;have hcb:(c == 0)=false:=beq_eq_false_iff_ne.2 hc;have hcn:(c != 0)=true:=by simp[hc]
  clear hc her HOK HV1 hcl;go_wp2_with fail;go_ret;exact⟨rfl,B1.out.trans (B14.out.mono B1.out.size)⟩
 subst hc;have hl12:l.length≤12:=HOK.out.2.2;have hli:¬ (12:Int) < l.length:=by omega
 clear her;go_wp2_with fail
 go_loopw [7] (fun i wr=>∃ k:Nat,k≤l.length∧i=.int .i64 k∧Hid (Below w1.heap.size w1 wr)) (fun i _=>l.length - (intOf i).toNat)
 case atStart=>exact⟨0,Nat.zero_le _,rfl,B14⟩
 case round =>
  obtain⟨k,hk,rfl,BL⟩:=hrel;have HVR:Hid (z14 wr (fun b=>b < wr.heap.size) (.slice ao l.length cap) l):=HV1.out.frame (fun b q=>⟨Nat.lt_of_lt_of_le q BL.out.size,BL.out.block b q⟩)
  by_cases hlt2:k < l.length
  ·obtain⟨ao',cap',hq,_,hcells⟩:=HV1.out.get
   injection hq with q1 q2 q3;subst q1;subst q3;obtain⟨g,o,rfl,hg1,c0,c1,c2,c3,c4⟩:=hcells k hlt2;have hmem:l[k] ∈ l:=List.getElem_mem hlt2;have hc0:=HOK.out.1 l[k] hmem;have hno:((l.take k).any fun z=>z.id == l[k].id)=false:=by
    rw[Bool.eq_false_iff];intro hq;rw[List.any_eq_true] at hq;obtain⟨z,hz,hid⟩:=hq;have hp:=List.pairwise_iff_getElem.1 HOK.out.2.1;obtain⟨j,hj,rfl⟩:=List.mem_iff_getElem.1 hz;rw[List.length_take] at hj;have:=hp j k (by omega) hlt2 (by omega);rw[List.getElem_take] at hid;exact this (by simpa using hid)
   have HTK:=Lib.hid (HVR.out.take k hk);generalize l[k]=x at c0 c1 c2 c3 c4 hc0 hno;obtain⟨hx1,hx2,hx3,hx4⟩:=Fd.j7o hc0;have HCELL:Hid (∀ W,Below w1.heap.size w1 W→W.cell? ⟨g,o + k * 5,none⟩=some (.string (st x.id))∧W.cell? ⟨g,o + k * 5 + 1,none⟩=some (.string (st x.ti))∧W.cell? ⟨g,o + k * 5 + 2,none⟩=some (.string (st x.li))∧W.cell? ⟨g,o + k * 5 + 3,none⟩=some (.int .i64 x.at_)∧W.cell? ⟨g,o + k * 5 + 4,none⟩=some (.string (st x.ht))):=fun W hW=>⟨(hW.cell (p:=⟨g,_,none⟩) hg1).trans c0,(hW.cell (p:=⟨g,_,none⟩) hg1).trans c1,(hW.cell (p:=⟨g,_,none⟩) hg1).trans c2,(hW.cell (p:=⟨g,_,none⟩) hg1).trans c3,(hW.cell (p:=⟨g,_,none⟩) hg1).trans c4⟩
   have HRH:=Lib.hid (right_ht x.ht hx2 hx4);have HX3:=Lib.hid hx3;have hki:(k:Int) < l.length:=by omega
   have hkc:(k:Int)≤cap:=by omega
   have hk0:(0:Int)≤k:=by omega
   have hGL:∀ W,Below w1.heap.size w1 W→Gl W:=fun W hW=>(HG.out.below B1.out hlt).below hW (by have:=(HG.out.below B1.out hlt).lt;omega)
   have HGL:=Lib.hid hGL;have HCK:Hid (∀ W,Below wr.heap.size wr.drew W→Calls Tryz.prog 23 #[.agg #[.string (st x.id),.string (st x.ti),.string (st x.li),.int .i64 x.at_,.string (st x.ht)]] W fun e w'=>e=.returned (.int .i64 0)∧Below wr.heap.size wr.drew w'):=fun W hW=>by
    have:=q5t x W (HGL.out W (BL.out.drew.trans (hW.mono BL.out.size)));rw[hc0] at this;exact this.mono (by rintro e w' ⟨h1,h2⟩;exact⟨h1,hW.trans (h2.mono hW.size)⟩)
   have HEA:Hid (∀ W,Below wr.heap.size wr.drew W→Calls Tryz.prog 31 #[.slice (some ⟨g,o,none⟩) k cap,.string (st x.id)] W fun e w'=>e=.returned (.int .i64 (-1))∧Below wr.heap.size wr.drew w'):=fun W hW=>by
    have hev:z14 W (fun b=>b < W.heap.size) (.slice (some ⟨g,o,none⟩) k cap) (l.take k):=HTK.out.frame (fun b q=>⟨Nat.lt_of_lt_of_le q hW.size,hW.block b q⟩);refine(j5n (l.take k) x.id _ _ W hev (fun b q=>q) (by rw[List.length_take];omega)).mono ?_;rintro e w' ⟨h1,i,rfl,h2,h3⟩;rw[hno] at h3;have:i = -1:=by
     have:¬ 0≤i:=of_decide_eq_false h3;omega
    subst this;exact⟨rfl,hW.trans (h1.mono hW.size)⟩
   have HS0:Hid ((wr.drew.cell? ⟨g,o + k * 5,none⟩=some (.string (st x.id))∧wr.drew.cell? ⟨g,o + k * 5 + 1,none⟩=some (.string (st x.ti))∧wr.drew.cell? ⟨g,o + k * 5 + 2,none⟩=some (.string (st x.li))∧wr.drew.cell? ⟨g,o + k * 5 + 3,none⟩=some (.int .i64 x.at_)∧wr.drew.cell? ⟨g,o + k * 5 + 4,none⟩=some (.string (st x.ht)))):=HCELL.out _ BL.out.drew;have HSW:Hid (∀ W,Below wr.heap.size wr.drew W→W.cell? ⟨g,o + k * 5,none⟩=some (.string (st x.id))∧W.cell? ⟨g,o + k * 5 + 1,none⟩=some (.string (st x.ti))∧W.cell? ⟨g,o + k * 5 + 2,none⟩=some (.string (st x.li))∧W.cell? ⟨g,o + k * 5 + 3,none⟩=some (.int .i64 x.at_)∧W.cell? ⟨g,o + k * 5 + 4,none⟩=some (.string (st x.ht))):=fun W hW=>HCELL.out W (BL.out.drew.trans (hW.mono BL.out.size))
   clear c0 c1 c2 c3 c4 hc0 hno hcells hmem HTK HVR hx3 hx4 hGL;go_wp2_with fail
   go_cut [63] (fun b wz=>b=.bool false∧Hid (Below w1.heap.size w1 wz))
   case first =>
    as_aux_lemma =>
    go_region_held3 (fun w'=>w'.cell? ⟨g,o + k * 5,none⟩=some (.string (st x.id))∧w'.cell? ⟨g,o + k * 5 + 1,none⟩=some (.string (st x.ti))∧w'.cell? ⟨g,o + k * 5 + 2,none⟩=some (.string (st x.li))∧w'.cell? ⟨g,o + k * 5 + 3,none⟩=some (.int .i64 x.at_)∧w'.cell? ⟨g,o + k * 5 + 4,none⟩=some (.string (st x.ht))) (first
     | exact HS0.out
     | exact HSW.out _ hb6
     | exact HSW.out _ hb5) (first
     | (go_at_call 23;with_reducible refine(HCK.out _ ?_).mono ?_;exact Below.refl _ _;rintro e w5 ⟨rfl,hb5⟩)
     | (go_at_call 31;with_reducible refine(HEA.out _ ?_).mono ?_;exact hb5;rintro e w6 ⟨rfl,hb6⟩))
    all_goals
     have B6:=Lib.hid (BL.out.drew.trans (hb6.mono BL.out.size));go_wp2_with fail;go_meet
     case rel=>exact⟨rfl,B6⟩
   case rest =>
   as_aux_lemma =>
   obtain⟨rfl,B7⟩:=hcut;obtain⟨w7,hw7⟩:∃ z,z=wc:=⟨_,rfl⟩;subst hw7;clear HCK HEA HS0 HSW BL;obtain⟨tl,f,htl,hf,hok,hadj,hlen,htb,hfb,hal,hsf,hct⟩:=HRH.out;have HTOK:=Lib.hid (And.intro hok hadj);have HF:=Lib.hid hf;have HRD:=tk_Read x.ht w7 (HGL.out w7 B7.out) hx2;rw[htl] at HRD;have HRD:=Lib.hid HRD;have HAL:=Lib.hid (fun v K W hv hK=>j5a (f.bulk + 1) f (Nat.lt_succ_self _) (by omega) hal v K W hv hK);have HIS:Hid (∀ v K W,FoV W K v f→(∀ b,K b→b < W.heap.size)→Calls Tryz.prog 34 #[v] W fun e w'=>e=.returned (.tuple #[.bool true,.int .i64 0])∧Below W.heap.size W w'):=fun v K W hv hK=>by
    have:=cl_Is f v K W (by omega) hv hK;rw[hct,hsf] at this;exact this
   clear hok hadj hf hal hsf hct htl HRH;obtain⟨d0,d1,d2,d3,d4⟩:=HCELL.out w7 B7.out;clear d0 d1 d2 d3;go_wp2_with fail;refine HRD.out.mono ?_;rintro e w8 ⟨v8,rfl,hv8,hb8⟩;have B8:=Lib.hid (B7.out.trans (hb8.mono B7.out.size));have HBD:=tr_Build tl v8 _ w8 hv8 (fun b q=>q.2) hlen HTOK.out.1 HTOK.out.2 (by omega);rw[HF.out] at HBD;have HBD:=Lib.hid HBD;obtain⟨ao8,cap8,hv8s,_,_⟩:=hv8.at_
   subst hv8s;clear hb8 HRD hv8 B7 d4;go_wp2_with fail;refine HBD.out.mono ?_;rintro e w9 ⟨v9,rfl,hv9,hb9⟩;have B9:=Lib.hid (B8.out.trans (hb9.mono B8.out.size));have HV9:Hid (FoV w9 (fun b=>b < w9.heap.size) v9 f):=hv9.frame (fun b q=>⟨q.2,rfl⟩);have HI:=Lib.hid (HIS.out v9 _ w9 HV9.out (fun b q=>q));obtain⟨ao9,cap9,xs9,hv9s,_⟩:=hv9;subst hv9s;clear hb9 HBD B8;go_wp2_with fail;refine HI.out.mono ?_;rintro e w10 ⟨rfl,hb10⟩;have B10:=Lib.hid (B9.out.trans (hb10.mono B9.out.size));have HV10:Hid (FoV w10 (fun b=>b < w10.heap.size) (.slice ao9 f.len cap9) f):=HV9.out.frame (fun b q=>⟨Nat.lt_of_lt_of_le q hb10.size,hb10.block b q⟩);clear hb10 HI HV9 B9;obtain⟨d0,d1,d2,d3,d4⟩:=HCELL.out w10 B10.out;clear d0 d1 d3 d4;have HUS:=z6l (st x.li) w10 (by rw[y9];exact hx1);rw[z0y] at HUS;have HX3b:Hid (x.li=[]∨Mg.isSafe x.li=true):=by
    by_cases q:x.li=[]
    ·exact .inl q
    ·exact .inr (HX3.out q)
   generalize Mg.isSafe x.li=bs at HUS HX3b;have HUS:=Lib.hid HUS;clear HX3;go_wp2_with fail;refine HUS.out.mono ?_;rintro e w11 ⟨rfl,hb11⟩;have B11:=Lib.hid (B10.out.trans (hb11.mono B10.out.size));have HV11:Hid (FoV w11 (fun b=>b < w11.heap.size) (.slice ao9 f.len cap9) f):=HV10.out.frame (fun b q=>⟨Nat.lt_of_lt_of_le q hb11.size,hb11.block b q⟩);have HA1:=Lib.hid (HAL.out _ _ w11 HV11.out (fun b q=>q));clear hb11 HUS HV10 B10 d2;go_wp2_with fail;refine HA1.out.mono ?_;rintro e w12 ⟨rfl,hb12⟩;have B12:=Lib.hid (B11.out.trans (hb12.mono B11.out.size));clear hb12 HA1 HV11 B11;obtain⟨d0,d1,d2,d3,d4⟩:=HCELL.out w12 B12.out;clear d0 d1 d3 d4
   rcases HX3b.out with hx | hx
   ·have hxe:x.li.isEmpty=true:=by rw[hx];rfl
    clear hx HX3b;go_wp2_with fail;go_roundw
    case rel=>exact⟨k + 1,by omega,by go_num,B12⟩
    case measure=>simp[intOf];omega
   ·subst hx
    rcases z5y x.li with ⟨_,hxe⟩ | ⟨_,hxe⟩
    ·clear HX3b
     go_wp2_with fail;go_roundw
     case rel=>exact⟨k + 1,by omega,by go_num,B12⟩
     case measure=>simp[intOf];omega
    ·clear HX3b
     go_wp2_with fail;go_roundw
     case rel=>exact⟨k + 1,by omega,by go_num,B12⟩
     case measure=>simp[intOf];omega
  ·have hki:¬ (k:Int) < l.length:=by omega
   go_wp2_with fail;go_ret;exact⟨rfl,B1.out.trans (BL.out.mono B1.out.size)⟩
end Go.Proofs.YtjonkbdldebkiaaGreatDoor
