/- Contracts of the program's Html at any texts: what is clean, or that they are too long. -/
import Derived.Test.YtagleefekmdldaaGreatDoorYMkSafe2
import Derived.Test.YtagleefekmdldaaGreatDoorYMkRep6
import Derived.Test.YtagleefekmdldaaGreatDoorYMkHtml
import Derived.Test.YtagleefekmdldaaGreatDoorYMkSame
import Derived.Test.YtagleefekmdldaaGreatDoorYMkTree13
import Derived.Test.YtagleefekmdldaaGreatDoorYMkByt1
import Derived.Test.YtagleefekmdldaaGreatDoorYMkFlat1
import Derived.Test.YtagleefekmdldaaGreatDoorYMkTok5
import Derived.Test.YtagleefekmdldaaGreatDoorYUrlPlain
set_option linter.unusedVariables false
set_option linter.unusedSimpArgs false
set_option maxHeartbeats 8000000
set_option maxRecDepth 100000
namespace Go.Proofs.YtagleefekmdldaaGreatDoor
open Go.RowKit
end Go.Proofs.YtagleefekmdldaaGreatDoor
namespace Mk
theorem adj_at:∀ (l:List Tok) (p:Bool) (j:Nat) (t u:Tok),Adj p l→l[j]? = some t→l[j + 1]? = some u→u.kind=1→t.kind ≠ 1
 | [],_,_,_,_,_,h,_,_=>by simp at h
 | a :: r,p,0,t,u,ha,h1,h2,hk=>by
  have e:a=t:=by simpa using h1
  subst e
  cases r with
  | nil=>simp at h2
  | cons b r =>
   have e:b=u:=by simpa using h2
   subst e;have:=ha.2.1 hk
   simpa using this
 | a :: r,p,j + 1,t,u,ha,h1,h2,hk=>adj_at r _ j t u ha.2 (by simpa using h1) (by simpa using h2) hk
theorem q9c {n:Bs} (h:isName n=true):n.length≤20:=by
 unfold isName at h;rw[Bool.and_eq_true,Bool.and_eq_true] at h;exact of_decide_eq_true h.1.2
end Mk
namespace Go.Proofs.YtagleefekmdldaaGreatDoor
open Go.Proofs.Tryz Go.RowKit
theorem tk_one (t:Mk.Tok) (ht:Mk.Bld.z6n t) (va:Value) (K:Nat→Prop) (w:World) (hva:AtsV w K va t.ats) (hK:∀ b,K b→b < w.heap.size) (hb:Mk.Fo.atB t.ats≤1048576) :
  Calls prog 48 #[tokV t va] w fun e w'=>e=.returned (.int .i64 0)∧Below w.heap.size w w':=by
 have hst:∀ l:List UInt8,(st l).toList=l:=fun l=>Lib.toList_data _
 have hll:=Mk.z1l t.ats;obtain⟨kd,nm,ats,tx⟩:=t;obtain⟨aot,capt,hva1,hva2⟩:=id hva;subst hva1;unfold tokV;simp only at *;have hal:=(Below.refl w.heap.size w).alloc (Lr) (.cells #[.int .i64 kd,.string (st nm),.slice aot ats.length capt,.string (st tx)] 52);have AL:=Ld hal
 rcases ht with ⟨k,h1,h2,h3⟩ | ⟨k,h1,h2,h3⟩ | ⟨k,h1,h2,h3⟩
 ·simp only at k h1 h2 h3
  subst k;subst h1;subst h2;have ht2:tx.isEmpty=false:=by cases tx with | nil=>exact absurd rfl h3 | cons _ _=>rfl
  clear hva hva2 hal h3;go_enter func48,ntmps48;go_wp2_with fail;go_ret;exact⟨rfl,AL.out⟩
 ·simp only at k h1 h2 h3
  subst k;subst h3;have hn:=Mk.q9c h1;have hnm:=fun W=>z7f (st nm) W (by rw[y9];omega)
  rw[z0b,h1] at hnm;have HN:=Ld hnm;have HA:=Ld (q4j ats _ K _ (hva.below hK hal) (fun b q=>Nat.lt_of_lt_of_le (hK b q) hal.size) (Nat.le_trans hb (by decide)));rw[h2] at HA;clear hva hva2 hal h1 h2 hnm;go_enter func48,ntmps48;go_wp2_with fail;refine(HN.out _).mono ?_;rintro e w2 ⟨rfl,rfl⟩;go_wp2_with fail;refine HA.out.mono ?_;rintro e w3 ⟨rfl,hb3⟩;have B3:=Ld (AL.out.trans (hb3.mono AL.out.size));clear hb3 HA;go_wp2_with fail;go_ret;exact⟨rfl,B3.out⟩
 ·simp only at k h1 h2 h3
  subst k;subst h3;subst h2;have hn:=Mk.q9c h1;have hnm:=fun W=>z7f (st nm) W (by rw[y9];omega)
  rw[z0b,h1] at hnm;have HN:=Ld hnm;have HA:=Ld (q4j [] _ K _ (hva.below hK hal) (fun b q=>Nat.lt_of_lt_of_le (hK b q) hal.size) (Nat.le_trans hb (by decide)));rw[show Mk.J3 Mk.isName [] []=0 from rfl] at HA;clear hva hva2 hal h1 hnm;go_enter func48,ntmps48;go_wp2_with fail;refine(HN.out _).mono ?_;rintro e w2 ⟨rfl,rfl⟩;go_wp2_with fail;refine HA.out.mono ?_;rintro e w3 ⟨rfl,hb3⟩;have B3:=Ld (AL.out.trans (hb3.mono AL.out.size));clear hb3 HA;go_wp2_with fail;go_ret;exact⟨rfl,B3.out⟩
theorem q4y (l:List Mk.Tok) (v:Value) (K:Nat→Prop) (w:World) (hv:z1b w K v l) (hK:∀ b,K b→b < w.heap.size) (hl:l.length≤3000) (hok:∀ t ∈ l,Mk.Bld.z6n t∧Mk.Fo.atB t.ats≤1048576) (ha:Mk.Adj false l) :
  Calls prog 24 #[v] w fun e w'=>e=.returned (.int .i64 0)∧Below w.heap.size w w':=by
 obtain⟨ao,cap,hv1,hlm,hat⟩:=hv.at_
 subst hv1;have HAT:=Ld hat
 have HK:=Ld hK;have HOK:=Ld hok;have HAD:=Ld ha;have h30:¬ 3000 < (l.length:Int):=by omega
 clear hv hat hK hok ha;go_enter func24,ntmps24;go_wp2_with fail
 go_loopw [11] (fun i wr=>∃ k:Nat,k≤l.length∧i=.int .i64 k∧Hid (Below w.heap.size w wr)) (fun i _=>l.length - (intOf i).toNat)
 case atStart=>exact⟨0,Nat.zero_le _,rfl,Below.refl _ _⟩
 case round =>
  obtain⟨k,hk,rfl,HBL⟩:=hrel
  by_cases hlt:k < l.length
  ·obtain⟨t,hkt⟩:∃ t,l[k]? = some t:=⟨_,List.getElem?_eq_getElem hlt⟩
   obtain⟨g,o,aot,capt,hao,hKg,hva,y0,y1,y2,y3⟩:=HAT.out k t hkt;subst hao;have hgl:=HK.out g hKg;rw[← HBL.out.cell (p:=⟨g,_,none⟩) hgl] at y0 y1 y2 y3;obtain⟨ok1,ok2⟩:=HOK.out t (List.mem_of_getElem? hkt);have hal:=(Below.refl wr.heap.size wr).alloc (Lr) (.cells #[.int .i64 t.kind,.string (st t.name),.slice aot t.ats.length capt,.string (st t.text)] 52);have hBL1:=HBL.out.trans (hal.mono HBL.out.size);have HONE:=Ld (tk_one t ok1 (.slice aot t.ats.length capt) K _ (hva.frame (fun b q=>⟨q,hBL1.block b (HK.out b q)⟩)) (fun b q=>Nat.lt_of_lt_of_le (HK.out b q) hBL1.size) ok2);have HBL1:=Ld hBL1;have PB:=Ld (Blk.new wr 52 #[.int .i64 t.kind,.string (st t.name),.slice aot t.ats.length capt,.string (st t.text)]);have HPREV:Hid (k=0∨t.kind ≠ 1∨∃ kj,(kj == 1)=false∧0 < k∧w.cell? ⟨g,o + (k - 1) * 4,none⟩=some (.int .i64 kj)):=by
    cases k with
    | zero=>exact .inl rfl
    | succ j =>
     by_cases hk1:t.kind=1
     ·obtain⟨u,hju⟩:∃ u,l[j]? = some u:=⟨_,List.getElem?_eq_getElem (by omega)⟩
      have hne:=Mk.adj_at l false j u t HAD.out hju hkt hk1;obtain⟨g',o',aou,capu,hao',_,_,x0,_,_,_⟩:=HAT.out j u hju;injection hao' with hao';injection hao' with e1 e2;subst e1;subst e2;refine .inr (.inr ⟨u.kind,beq_eq_false_iff_ne.2 hne,Nat.succ_pos _,?_⟩);rw[Nat.add_sub_cancel];exact x0
     ·exact .inr (.inl hk1)
   clear hBL1 hal hva HBL ok1 ok2 hkt;unfold tokV at HONE;go_upto_region 6 with fail;generalize (wr.alloc (.cells #[.int .i64 t.kind,.string (st t.name),.slice aot t.ats.length capt,.string (st t.text)] 52))=w1 at HONE HBL1 PB ⊢;have z0:w1.cell? ⟨wr.heap.size,0,none⟩=some (.int .i64 t.kind):=Blk.cell PB.out 0;have z1:w1.cell? ⟨wr.heap.size,1,none⟩=some (.string (st t.name)):=Blk.cell PB.out 1;have z2:w1.cell? ⟨wr.heap.size,2,none⟩=some (.slice aot t.ats.length capt):=Blk.cell PB.out 2;have z3:w1.cell? ⟨wr.heap.size,3,none⟩=some (.string (st t.text)):=Blk.cell PB.out 3;clear y0 y1 y2 y3;go_wp2_with fail;refine HONE.out.mono ?_;rintro e w2 ⟨rfl,hb2⟩;have B2:=Ld (HBL1.out.trans (hb2.mono HBL1.out.size));rw[← hb2.cell (p:=⟨wr.heap.size,_,none⟩) (Blk.lt PB.out)] at z0;clear z1 z2 z3 hb2 HONE HBL1 PB;generalize t.kind=kd at z0 HPREV
   rcases HPREV.out with h0 | h1 | ⟨kj,h1,h2,h3⟩
   ·subst h0
    clear HPREV;go_wp2_with fail;go_roundw
    case rel=>exact⟨1,by omega,by go_num,B2.out⟩
    case measure=>simp[intOf];omega
   ·have hkb:(kd == 1)=false:=beq_eq_false_iff_ne.2 h1
    by_cases h0:0 < k
    ·have h0i:(0:Int) < k:=by omega
     clear HPREV h1;go_wp2_with fail;go_roundw
     case rel=>exact⟨k + 1,by omega,by go_num,B2.out⟩
     case measure=>simp[intOf];omega
    ·have h0i:¬ (0:Int) < k:=by omega
     clear HPREV h1;go_wp2_with fail;go_roundw
     case rel=>exact⟨k + 1,by omega,by go_num,B2.out⟩
     case measure=>simp[intOf];omega
   ·rw[← B2.out.cell (p:=⟨g,_,none⟩) hgl] at h3
    obtain⟨j,rfl⟩:∃ j,k=j + 1:=⟨k - 1,by omega⟩;rw[Nat.add_sub_cancel] at h3;have h0i:(0:Int) < ((j + 1:Nat):Int):=by omega
    have hj1:(((j + 1:Nat):Int) - 1)=(j:Int):=by omega
    have hj2:(j:Int) < l.length:=by omega
    clear HPREV;go_wp2_with fail
    all_goals
     go_roundw
     case rel=>exact⟨j + 1 + 1,by omega,by go_num,B2.out⟩
     case measure=>simp[intOf];omega
  ·have:k=l.length:=by omega
   subst this;go_wp2_with fail;go_ret;exact⟨rfl,HBL.out⟩
theorem j00 (l:List Mk.Tok) (v:Value) (K:Nat→Prop) (w:World) (hv:z1b w K v l) (hK:∀ b,K b→b < w.heap.size) (hl:l.length≤3000) (hok:∀ t ∈ l,Mk.Bld.z6n t∧Mk.Fo.atB t.ats≤1048576) (ha:Mk.Adj false l) (hb:Mk.Bld.tokB l≤549755813000) :
  Calls prog 13 #[v] w fun e w'=>∃ v',e=.returned (.tuple #[v',.int .i64 0])∧FoV w' (fun g=>w.heap.size≤g∧g < w'.heap.size) v' (Mk.build l)∧Below w.heap.size w w':=by
 have HC:=Ld (q4y l v K w hv hK hl hok ha);have HV:=Ld hv;have HK:=Ld hK;obtain⟨ao,cap,hv1,hlm,hat⟩:=hv.at_
 subst hv1;clear hv hK hat hok ha;go_enter func13,ntmps13;go_wp2_with fail;refine HC.out.mono ?_;rintro e w1 ⟨rfl,hb1⟩;have B1:=Ld hb1;have HO:=Ld (tr_Of l _ K w1 (HV.out.frame (fun b q=>⟨q,hb1.block b (HK.out b q)⟩)) (fun b q=>Nat.lt_of_lt_of_le (HK.out b q) hb1.size) hb);clear hb1 HC;go_wp2_with fail;refine HO.out.mono ?_;rintro e w2 ⟨v2,rfl,hv2,hb2⟩;have HV2:Hid (FoV w2 (fun g=>w.heap.size≤g∧g < w2.heap.size) v2 (Mk.build l)):=hv2.frame (fun b q=>⟨⟨Nat.le_trans B1.out.size q.1,q.2⟩,rfl⟩);have B2:=Ld (B1.out.trans (hb2.mono B1.out.size));clear hv2 hb2 HO;go_wp2_with fail;go_ret2;exact⟨v2,rfl,HV2.out,B2.out⟩
theorem q51 (s:List UInt8) (w:World) (hg:Gl w) (hs:s.length≤3000) :
  Calls prog 11 #[.string (st s)] w fun e w'=>∃ v,e=.returned (.tuple #[v,.int .i64 0])∧z1b w' (fun b=>w.heap.size≤b∧b < w'.heap.size) v (Mk.toks s)∧Below w.heap.size w w':=by
 have HA:=Ld (mk_All (st s) w hg (by rw[y9];omega));have h2:¬ 3000 < (st s).size:=by rw[y9];omega
 go_enter func11,ntmps11;go_wp2_with fail;refine HA.out.mono ?_;rintro e w1 ⟨v1,rfl,hv1,hb1⟩;have HV1:=Ld hv1;have B1:=Ld hb1;clear hv1 hb1 HA;go_wp2_with fail;go_ret2;exact⟨v1,rfl,HV1.out,B1.out⟩
theorem z1r (l:List Mk.Tok) (v u:Value) (K K2:Nat→Prop) (w:World) (hv:z1b w K v l) (hu:z1b w K2 u l) (hK:∀ b,K b→b < w.heap.size) (hK2:∀ b,K2 b→b < w.heap.size) (hl:l.length≤33554432) (hla:∀ t ∈ l,t.ats.length≤33554432) :
  Calls prog 12 #[v,u] w fun e w'=>e=.returned (.bool true)∧Below w.heap.size w w':=by
 obtain⟨ao,cap,hv1,hvm,hvc⟩:=hv.at_
 obtain⟨au,cau,hu1,hum,huc⟩:=hu.at_
 subst hv1;subst hu1;have HV:=Ld hvc;have HU:=Ld huc;have HK:=Ld hK;have HK2:=Ld hK2;have HLA:=Ld hla;clear hvc huc hv hu hvm hum hK hK2 hla;go_enter func12,ntmps12;go_wp2_with fail
 go_loopw [5] (fun i wr=>∃ k:Nat,k≤l.length∧i=.int .i64 k∧Hid (Below w.heap.size w wr)) (fun i _=>l.length - (intOf i).toNat)
 case atStart=>exact⟨0,Nat.zero_le _,rfl,Below.refl _ _⟩
 case round =>
  obtain⟨k,hk,rfl,BL⟩:=hrel
  by_cases hlt:k < l.length
  ·obtain⟨g,o,aoa,capa,rfl,hKg,hva,c0,c1,c2,c3⟩:=HV.out k l[k] (List.getElem?_eq_getElem hlt)
   obtain⟨g2,o2,aoa2,capa2,rfl,hKg2,hva2,d0,d1,d2,d3⟩:=HU.out k l[k] (List.getElem?_eq_getElem hlt);have hgw:=HK.out g hKg;have hgw2:=HK2.out g2 hKg2;have hal:=HLA.out l[k] (List.getElem_mem hlt);obtain⟨⟨kd,nm,at_,tx⟩,htk⟩:∃ t,t=l[k]:=⟨_,rfl⟩;rw[← htk] at hva c0 c1 c2 c3 hva2 d0 d1 d2 d3 hal;simp only at hva c0 c1 c2 c3 hva2 d0 d1 d2 d3 hal;have HFR:Hid (∀ W,Below w.heap.size w W→W.cell? ⟨g,o + k * 4,none⟩=some (.int .i64 kd)∧W.cell? ⟨g,o + k * 4 + 1,none⟩=some (.string (st nm))∧W.cell? ⟨g,o + k * 4 + 2,none⟩=some (.slice aoa at_.length capa)∧W.cell? ⟨g,o + k * 4 + 3,none⟩=some (.string (st tx))∧W.cell? ⟨g2,o2 + k * 4,none⟩=some (.int .i64 kd)∧W.cell? ⟨g2,o2 + k * 4 + 1,none⟩=some (.string (st nm))∧W.cell? ⟨g2,o2 + k * 4 + 2,none⟩=some (.slice aoa2 at_.length capa2)∧W.cell? ⟨g2,o2 + k * 4 + 3,none⟩=some (.string (st tx))):=fun W hW=>⟨(hW.cell (p:=⟨g,_,none⟩) hgw).trans c0,(hW.cell (p:=⟨g,_,none⟩) hgw).trans c1,(hW.cell (p:=⟨g,_,none⟩) hgw).trans c2,(hW.cell (p:=⟨g,_,none⟩) hgw).trans c3,(hW.cell (p:=⟨g2,_,none⟩) hgw2).trans d0,(hW.cell (p:=⟨g2,_,none⟩) hgw2).trans d1,(hW.cell (p:=⟨g2,_,none⟩) hgw2).trans d2,(hW.cell (p:=⟨g2,_,none⟩) hgw2).trans d3⟩
   have HSA:Hid (∀ W,Below w.heap.size w W→Calls prog 40 #[.slice aoa at_.length capa,.slice aoa2 at_.length capa2] W fun e w'=>e=.returned (.bool true)∧Below W.heap.size W w'):=fun W hW=>by
    have h:=z9f at_ at_ _ _ K K2 W (hva.below HK.out hW) (hva2.below HK2.out hW) (fun b q=>Nat.lt_of_lt_of_le (HK.out b q) hW.size) (fun b q=>Nat.lt_of_lt_of_le (HK2.out b q) hW.size) hal
    rwa [show decide (at_=at_)=true from decide_eq_true rfl] at h
   obtain⟨p0,p1,p2,p3,s0,s1,s2,s3⟩:=HFR.out wr BL.out;have hki:(k:Int) < l.length:=by omega
   have hk0:(0:Int)≤k:=by omega
   clear hva hva2 c0 c1 c2 c3 d0 d1 d2 d3 HV HU htk;go_upto_region 6 with fail
   go_region_held3 (fun w'=>w'.cell? ⟨g,o + k * 4,none⟩=some (.int .i64 kd)∧w'.cell? ⟨g,o + k * 4 + 1,none⟩=some (.string (st nm))∧w'.cell? ⟨g,o + k * 4 + 2,none⟩=some (.slice aoa at_.length capa)∧w'.cell? ⟨g,o + k * 4 + 3,none⟩=some (.string (st tx))∧w'.cell? ⟨g2,o2 + k * 4,none⟩=some (.int .i64 kd)∧w'.cell? ⟨g2,o2 + k * 4 + 1,none⟩=some (.string (st nm))∧w'.cell? ⟨g2,o2 + k * 4 + 2,none⟩=some (.slice aoa2 at_.length capa2)∧w'.cell? ⟨g2,o2 + k * 4 + 3,none⟩=some (.string (st tx))) (first
    | exact HFR.out _ BL.out.drew
    | exact HFR.out _ hB2) (first | (go_at_call 40;refine(HSA.out _ BL.out.drew).mono ?_;rintro e w2 ⟨rfl,hb2⟩;have hB2:Below w.heap.size w w2:=BL.out.drew.trans (hb2.mono BL.out.size)))
   all_goals
    have HB3:=Ld hB2;clear hB2 hb2 HFR HSA p0 p1 p2 p3 s0 s1 s2 s3;go_wp2_with fail;go_roundw
    case rel=>exact⟨k + 1,by omega,by go_num,HB3.out⟩
    case measure=>simp[intOf];omega
  ·have hke:k=l.length:=by omega
   clear HV HU;go_wp2_with fail;go_ret;exact⟨rfl,BL.out⟩
end Go.Proofs.YtagleefekmdldaaGreatDoor
namespace Mk
def tkS:Bs:=[60,65,32,104,114,101,102,61,39,120,38,113,117,111,116,59,121,39,32,104,114,101,102,61,122,62,49,32,60,33,45,45,32,99,32,45,45,62,38,108,116,59,32,50,60,47,97,32,32,62]
def q4v:List Tok:=[⟨2,[97],[⟨[104,114,101,102],[120,34,121]⟩],[]⟩,⟨1,[],[],[49,32,60,32,50]⟩,⟨3,[97],[],[]⟩]
theorem j6r:toks tkS=q4v:=by decide +kernel
theorem tk_toks2:toks [97,60,98]=[⟨1,[],[],[97,60,98]⟩]:=by decide +kernel
theorem q9w:bytes q4v=[60,97,32,104,114,101,102,61,34,120,38,113,117,111,116,59,121,34,62,49,32,38,108,116,59,32,50,60,47,97,62]:=by decide +kernel
theorem tk_adj:Adj false q4v:=by simp[Adj,q4v]
theorem tk_ok:∀ t ∈ q4v,Bld.z6n t∧Fo.atB t.ats≤1048576:=fun t ht=>⟨by rw[← j6r] at ht;exact q8r tkS t ht,by revert t;decide⟩
end Mk
namespace Go.Proofs.YtagleefekmdldaaGreatDoor
open Go.Proofs.Tryz Go.RowKit
theorem tk_Print (l:List Mk.Tok) (v:Value) (K:Nat→Prop) (w:World) (hv:z1b w K v l) (hK:∀ b,K b→b < w.heap.size) (hl:l.length≤3000) (hok:∀ t ∈ l,Mk.Bld.z6n t∧Mk.Fo.atB t.ats≤1048576) (ha:Mk.Adj false l) (hT:∀ t ∈ l,z7l t) (hb:(Mk.bytes l).length≤1099511627776) :
  Calls prog 22 #[v] w fun e w'=>e=.returned (.tuple #[.string (st (Mk.bytes l)),.int .i64 0])∧Below w.heap.size w w':=by
 have HC:=Ld (q4y l v K w hv hK hl hok ha);have HB:Hid (∀ W,Below w.heap.size w W→Calls prog 47 #[v] W fun e w'=>e=.returned (.string (st (Mk.bytes l)))∧Below W.heap.size W w'):=fun W hW =>
  q9v l v K W (hv.frame fun b q=>⟨q,hW.block b (hK b q)⟩) (fun b q=>Nat.lt_of_lt_of_le (hK b q) hW.size) hT hb
 obtain⟨ao,cap,hv1,_⟩:=hv.at_
 subst hv1;generalize Mk.bytes l=bs at HB;clear hv hK hok ha hT hb;go_enter func22,ntmps22;go_wp2_with fail;refine HC.out.mono ?_;rintro e w1 ⟨rfl,hb1⟩;have B1:=Ld hb1;have HB1:=Ld (HB.out w1 hb1);clear hb1 HC HB;go_wp2_with fail;refine HB1.out.mono ?_;rintro e w2 ⟨rfl,hb2⟩;have B2:=Ld (B1.out.trans (hb2.mono B1.out.size));clear hb2 HB1;go_wp2_with fail;go_ret2;exact⟨rfl,B2.out⟩
theorem q7y (w:World) :
  Calls prog 23 #[] w fun e w'=>∃ ao cap,e=.returned (.slice ao 3 cap)∧z1b w' (fun b=>w.heap.size≤b∧b < w'.heap.size) (.slice ao 3 cap) Mk.q4v∧Below w.heap.size w w':=by
 have b1:=(Below.refl w.heap.size w).alloc (Lr) (.cells #[.string (st [104,114,101,102]),.string (st [120,34,121])] 73);have b2:=b1.alloc b1.size (.cells #[.int .i64 2,.string (st [97]),.slice (some ⟨w.heap.size,0,none⟩) 1 1,.string (st []),.int .i64 1,.string (st []),.slice none 0 0,.string (st [49,32,60,32,50]),.int .i64 3,.string (st [97]),.slice none 0 0,.string (st [])] 52);have n1:=Blk.alloc (Blk.new w 73 #[.string (st [104,114,101,102]),.string (st [120,34,121])]) (.cells #[.int .i64 2,.string (st [97]),.slice (some ⟨w.heap.size,0,none⟩) 1 1,.string (st []),.int .i64 1,.string (st []),.slice none 0 0,.string (st [49,32,60,32,50]),.int .i64 3,.string (st [97]),.slice none 0 0,.string (st [])] 52);have n2:=Blk.new (w.alloc (.cells #[.string (st [104,114,101,102]),.string (st [120,34,121])] 73)) 52 #[.int .i64 2,.string (st [97]),.slice (some ⟨w.heap.size,0,none⟩) 1 1,.string (st []),.int .i64 1,.string (st []),.slice none 0 0,.string (st [49,32,60,32,50]),.int .i64 3,.string (st [97]),.slice none 0 0,.string (st [])];rw[World.size_alloc] at n2;have hsz:((w.alloc (.cells #[.string (st [104,114,101,102]),.string (st [120,34,121])] 73)).alloc (.cells #[.int .i64 2,.string (st [97]),.slice (some ⟨w.heap.size,0,none⟩) 1 1,.string (st []),.int .i64 1,.string (st []),.slice none 0 0,.string (st [49,32,60,32,50]),.int .i64 3,.string (st [97]),.slice none 0 0,.string (st [])] 52)).heap.size=w.heap.size + 2:=by simp
 go_enter func23,ntmps23;go_wp2_with fail;go_ret;refine⟨some ⟨w.heap.size + 1,0,none⟩,3,rfl,?_,b2⟩;refine⟨_,3,[.int .i64 2,.string (st [97]),.slice (some ⟨w.heap.size,0,none⟩) 1 1,.string (st []),.int .i64 1,.string (st []),.slice none 0 0,.string (st [49,32,60,32,50]),.int .i64 3,.string (st [97]),.slice none 0 0,.string (st [])],rfl,.inr ⟨w.heap.size + 1,0,rfl,⟨by omega,by show _ < ((w.alloc (.cells #[.string (st [104,114,101,102]),.string (st [120,34,121])] 73)).alloc (.cells #[.int .i64 2,.string (st [97]),.slice (some ⟨w.heap.size,0,none⟩) 1 1,.string (st []),.int .i64 1,.string (st []),.slice none 0 0,.string (st [49,32,60,32,50]),.int .i64 3,.string (st [97]),.slice none 0 0,.string (st [])] 52)).heap.size;omega⟩,fun i v hi=>?_,fun i _=>Blk.frozen n2 _⟩,?_,(show 3≤maxLen by decide)⟩
 ·rw[Nat.zero_add]
  exact(Blk.cell n2 i).trans (by simpa using hi)
 ·refine⟨.slice (some ⟨w.heap.size,0,none⟩) 1 1,_,rfl,⟨_,1,rfl,.inr ⟨w.heap.size,0,rfl,⟨Lr,by show _ < ((w.alloc (.cells #[.string (st [104,114,101,102]),.string (st [120,34,121])] 73)).alloc (.cells #[.int .i64 2,.string (st [97]),.slice (some ⟨w.heap.size,0,none⟩) 1 1,.string (st []),.int .i64 1,.string (st []),.slice none 0 0,.string (st [49,32,60,32,50]),.int .i64 3,.string (st [97]),.slice none 0 0,.string (st [])] 52)).heap.size;omega⟩,fun i v hi=>?_,fun i _=>Blk.frozen n1 _⟩,Nat.le_refl 1,(show 1≤maxLen by decide)⟩,?_⟩
  ·rw[Nat.zero_add]
   exact(Blk.cell n1 i).trans (by simpa [Z5] using hi)
  ·exact⟨.slice none 0 0,_,rfl,AtsV.nil _ _,.slice none 0 0,[],rfl,AtsV.nil _ _,rfl⟩
theorem q4i (w:World) (hg:Gl w) :
  Calls prog 5 #[] w fun e w'=>e=.returned (.bool true)∧Below w.heap.size w w':=by
 have hst:∀ l:List UInt8,(st l).toList=l:=fun l=>Lib.toList_data _
 have HG:=Ld hg;have hlt:=hg.lt;have hr:=q51 Mk.tkS w hg (by decide);rw[Mk.j6r] at hr;have HR:=Ld hr;clear hr;go_enter func5,ntmps5;go_wp2_with fail;refine HR.out.mono ?_;rintro e w1 ⟨v1,rfl,hv1,hb1⟩;obtain⟨ao1,cap1,rfl,_⟩:=id hv1.at_
 have B1:=Ld hb1;have V1:=Ld (hv1.frame (K':=fun b=>b < w1.heap.size) fun b q=>⟨q.2,rfl⟩);clear hv1 hb1 HR;go_wp2_with fail;refine(q7y w1).mono ?_;rintro e w2 ⟨ao2,cap2,rfl,hv2,hb2⟩;have B2:=Ld (B1.out.trans (hb2.mono B1.out.size));have V2:=Ld (V1.out.frame (K':=fun b=>b < w2.heap.size) fun b q=>⟨Nat.lt_of_lt_of_le q hb2.size,hb2.block b q⟩);have HP:=Ld (tk_Print Mk.q4v (.slice ao2 3 cap2) _ w2 hv2 (fun b q=>q.2) (by decide) Mk.tk_ok Mk.tk_adj (fun t ht=>⟨fun _=>q1w _ (by revert t;decide),fun a ha=>q1w _ (by revert a;revert t;decide)⟩) (by rw[Mk.q9w];decide));rw[Mk.q9w] at HP;clear hv2 hb2 V1 B1;go_wp2_with fail;refine HP.out.mono ?_;rintro e w3 ⟨rfl,hb3⟩;have B3:=Ld (B2.out.trans (hb3.mono B2.out.size));have V3:=Ld (V2.out.frame (K':=fun b=>b < w3.heap.size) fun b q=>⟨Nat.lt_of_lt_of_le q hb3.size,hb3.block b q⟩);have hr:=q51 [97,60,98] w3 (HG.out.below B3.out hlt) (by decide);rw[Mk.tk_toks2] at hr;have HR:=Ld hr;clear hb3 HP V2 B2 hr;go_wp2_with fail;refine HR.out.mono ?_;rintro e w4 ⟨v4,rfl,hv4,hb4⟩;obtain⟨ao4,cap4,rfl,_⟩:=id hv4.at_
 have B4:=Ld (B3.out.trans (hb4.mono B3.out.size));have V4:=Ld (V3.out.frame (K':=fun b=>b < w4.heap.size) fun b q=>⟨Nat.lt_of_lt_of_le q hb4.size,hb4.block b q⟩);have U4:=Ld (hv4.frame (K':=fun b=>b < w4.heap.size) fun b q=>⟨q.2,rfl⟩);clear hv4 hb4 HR V3 B3;go_wp2_with fail;refine(q7y w4).mono ?_;rintro e w5 ⟨ao5,cap5,rfl,hv5,hb5⟩;have B5:=Ld (B4.out.trans (hb5.mono B4.out.size));have V5:=Ld (V4.out.frame (K':=fun b=>b < w5.heap.size) fun b q=>⟨Nat.lt_of_lt_of_le q hb5.size,hb5.block b q⟩);have U5:=Ld (U4.out.frame (K':=fun b=>b < w5.heap.size) fun b q=>⟨Nat.lt_of_lt_of_le q hb5.size,hb5.block b q⟩);have HC:=Ld (q4y Mk.q4v (.slice ao5 3 cap5) _ w5 hv5 (fun b q=>q.2) (by decide) Mk.tk_ok Mk.tk_adj);clear hv5 hb5 V4 U4 B4;go_wp2_with fail;refine HC.out.mono ?_;rintro e w6 ⟨rfl,hb6⟩;have B6:=Ld (B5.out.trans (hb6.mono B5.out.size));have V6:=Ld (V5.out.frame (K':=fun b=>b < w6.heap.size) fun b q=>⟨Nat.lt_of_lt_of_le q hb6.size,hb6.block b q⟩);have U6:=Ld (U5.out.frame (K':=fun b=>b < w6.heap.size) fun b q=>⟨Nat.lt_of_lt_of_le q hb6.size,hb6.block b q⟩);clear hb6 HC V5 U5 B5;go_wp2_with fail;refine(q7y w6).mono ?_;rintro e w7 ⟨ao7,cap7,rfl,hv7,hb7⟩;have B7:=Ld (B6.out.trans (hb7.mono B6.out.size));have V7:=Ld (V6.out.frame (K':=fun b=>b < w7.heap.size) fun b q=>⟨Nat.lt_of_lt_of_le q hb7.size,hb7.block b q⟩);have U7:=Ld (U6.out.frame (K':=fun b=>b < w7.heap.size) fun b q=>⟨Nat.lt_of_lt_of_le q hb7.size,hb7.block b q⟩);have HS:=Ld (z1r Mk.q4v _ (.slice ao7 3 cap7) _ _ w7 V7.out hv7 (fun b q=>q) (fun b q=>q.2) (by decide) (by decide));clear hv7 hb7 V6 U6 B6;go_wp2_with fail;refine HS.out.mono ?_;rintro e w8 ⟨rfl,hb8⟩;have B8:=Ld (B7.out.trans (hb8.mono B7.out.size));have U8:=Ld (U7.out.frame (K':=fun b=>b < w8.heap.size) fun b q=>⟨Nat.lt_of_lt_of_le q hb8.size,hb8.block b q⟩);have al:=(Below.refl w8.heap.size w8).alloc (Lr) (.cells #[.int .i64 1,.string (st []),.slice none 0 0,.string (st [97,60,98])] 52);have nb:=Blk.new w8 52 #[.int .i64 1,.string (st []),.slice none 0 0,.string (st [97,60,98])];have hv9:z1b (w8.alloc (.cells #[.int .i64 1,.string (st []),.slice none 0 0,.string (st [97,60,98])] 52)) (fun b=>b≤w8.heap.size) (.slice (some ⟨w8.heap.size,0,none⟩) 1 1) [⟨1,[],[],[97,60,98]⟩]:=by
  refine⟨_,1,[.int .i64 1,.string (st []),.slice none 0 0,.string (st [97,60,98])],rfl,.inr ⟨w8.heap.size,0,rfl,Lr,fun i v hi=>?_,fun i _=>Blk.frozen nb _⟩,⟨.slice none 0 0,[],rfl,AtsV.nil _ _,rfl⟩,(show 1≤maxLen by decide)⟩;rw[Nat.zero_add];exact(Blk.cell nb i).trans (by simpa using hi)
 have HS2:=Ld (z1r [⟨1,[],[],[97,60,98]⟩] _ (.slice (some ⟨w8.heap.size,0,none⟩) 1 1) _ _ _ (U8.out.frame (K':=fun b=>b < w8.heap.size) fun b q=>⟨q,al.block b q⟩) hv9 (fun b q=>Nat.lt_trans q nb.lt) (fun b q=>Nat.lt_of_le_of_lt q nb.lt) (by decide) (by decide));have AL:=Ld (B8.out.trans (al.mono B8.out.size));clear hb8 HS V7 U7 B7 al nb hv9 U8 B8;go_wp2_with fail;refine HS2.out.mono ?_;rintro e w9 ⟨rfl,hb9⟩;have B9:=Ld (AL.out.trans (hb9.mono AL.out.size));clear hb9 HS2 AL;go_wp2_with fail;go_ret;exact⟨rfl,B9.out⟩
end Go.Proofs.YtagleefekmdldaaGreatDoor
namespace Mk
def q2e (s:Bs):List Tok:=if 3000 < s.length then [] else toks s
end Mk
namespace Go.Proofs.YtagleefekmdldaaGreatDoor
open Go.Proofs.Tryz Go.RowKit
theorem j2u (s:List UInt8) (w:World) (hg:Gl w) :
  Calls prog 11 #[.string (st s)] w fun e w'=>∃ v,e=.returned (.tuple #[v,.int .i64 (if 3000 < s.length then 2 else 0)])∧z1b w' (fun b=>w.heap.size≤b∧b < w'.heap.size) v (Mk.q2e s)∧Below w.heap.size w w':=by
 by_cases h:3000 < s.length
 ·have h2:3000 < (st s).size:=by rw[y9];exact h
  have HW:Hid (Mk.q2e s=[]):=by show _=_;unfold Mk.q2e;rw[if_pos h]
  rw[if_pos h,HW.out];clear h HW;go_enter func11,ntmps11;go_wp2_with fail;go_ret2;exact⟨_,rfl,⟨none,0,[],rfl,.inl rfl,rfl,Nat.zero_le _⟩,Below.refl _ _⟩
 ·rw[if_neg h]
  have hw:Mk.q2e s=Mk.toks s:=by unfold Mk.q2e;rw[if_neg h]
  rw[hw];exact q51 s w hg (by omega)
theorem j1t (s:List UInt8) (w:World) :
  Calls prog 9 #[.string (st s)] w fun e w'=>e=.returned (.int .i64 (if 3000 < s.length then 2 else 0))∧w'=w:=by
 have hz:=y9 s
 by_cases h:3000 < s.length
 ·have h2:3000 < (st s).size:=by rw[hz];exact h
  rw[if_pos h];clear h hz;go_enter func9,ntmps9;go_wp2_with fail;go_ret;exact⟨rfl,rfl⟩
 ·have h2:¬ 3000 < (st s).size:=by rw[hz];exact h
  rw[if_neg h];clear h hz;go_enter func9,ntmps9;go_wp2_with fail;go_ret;exact⟨rfl,rfl⟩
end Go.Proofs.YtagleefekmdldaaGreatDoor
namespace Mk
theorem z6g (text:Bs) (out:List Tok):(flush text out).length≤out.length + (if text=[] then 0 else 1):=by
 unfold flush;simp only
 split
 ·omega
 ·rename_i h
  have:text ≠ []:=by rintro rfl;exact h rfl
  rw[if_neg this,List.length_append,List.length_singleton];exact Lr
theorem z3e:∀ (n:Nat) (r text:Bs) (out:List Tok),r.length≤n→(z0a n r text out).length≤out.length + (if text=[] then 0 else 1) + r.length
 | 0,r,text,out,_=>by
  have e:z0a 0 r text out=flush text out:=by unfold z0a;rfl
  have:=z6g text out;rw[e];omega
 | n + 1,[],text,out,_=>by
  have e:z0a (n + 1) [] text out=flush text out:=by unfold z0a;rfl
  have:=z6g text out;rw[e];omega
 | n + 1,c :: t,text,out,h=>by
  have h:t.length≤n:=by simpa using h
  unfold z0a;rw[List.length_cons]
  split
  ·cases hh:hereAt (c :: t) with
   | text =>
    have:=z3e n t (text++[60]) out h;rw[if_neg (by simp)] at this;simp only;omega
   | stop =>
    have:=z6g (text++c :: t) out;rw[if_neg (by simp)] at this;simp only;omega
   | gone u =>
    have h1:=q1f hh;have:=z3e n u text out (by omega);simp only;omega
   | tag k u =>
    have h1:=q4b hh;have h2:=z3e n u [] (flush text out++[k]) (by omega);have h3:=z6g text out;rw[if_pos rfl,List.length_append,List.length_singleton] at h2;simp only;omega
  ·have:=z3e n t (text++[c]) out h
   rw[if_neg (by simp)] at this;omega
theorem j2x (s:Bs):(toks s).length≤s.length:=by
 have:=z3e s.length s [] [] (Lr);rw[if_pos rfl] at this;have e:toks s=z0a s.length s [] []:=rfl;rw[e]
 simpa using this
theorem atB_tokB {l:List Tok} {t:Tok} (h:t ∈ l):Fo.atB t.ats≤Bld.tokB l:=by
 induction l with
 | nil=>cases h
 | cons x r ih =>
  rw[Bld.z5y]
  rcases List.mem_cons.1 h with e | e
  ·rw[e];omega
  ·have:=ih e;omega
theorem q7r {r:Bs} {k:Tok} {rest:Bs} (h:hereAt r=.tag k rest):k.kind ≠ 1:=by
 unfold hereAt at h
 split at h
 ·unfold z2i at h
  simp only at h
  split at h
  ·cases h
  ·split at h
   ·injection h with h _;subst h;exact(by decide:(2:Int) ≠ 1)
   ·cases h
 ·split at h
  ·unfold z0y at h
   simp only at h
   split at h
   ·cases h
   ·split at h
    ·injection h with h _;subst h;exact(by decide:(3:Int) ≠ 1)
    ·cases h
  ·split at h
   ·unfold z0l at h;split at h <;> cases h
   ·split at h
    ·unfold z0l at h;split at h <;> cases h
    ·cases h
def AdjE (l:List Tok):Prop:=∀ m,Adj false m→Adj false (l++m)
theorem AdjE.self {l:List Tok} (h:AdjE l):Adj false l:=by
 have:=h [] trivial
 rwa [List.append_nil] at this
theorem q1d {text:Bs} {out:List Tok} (h:AdjE out):Adj false (flush text out):=by
 unfold flush;simp only
 split
 ·exact h.self
 ·exact h _ ⟨fun _=>rfl,trivial⟩
theorem j1g {text:Bs} {out:List Tok} {k:Tok} (h:AdjE out) (hk:k.kind ≠ 1):AdjE (flush text out++[k]):=by
 have e:decide (k.kind=1)=false:=decide_eq_false hk;intro m hm;unfold flush;simp only
 split
 ·rw[List.append_assoc]
  exact h _ ⟨fun q=>absurd q hk,by rw[e];exact hm⟩
 ·rw[List.append_assoc,List.append_assoc]
  exact h _ ⟨fun _=>rfl,fun q=>absurd q hk,by rw[e];exact hm⟩
theorem z5z:∀ (n:Nat) (r text:Bs) (out:List Tok),AdjE out→Adj false (z0a n r text out)
 | 0,r,text,out,h=>by
  have e:z0a 0 r text out=flush text out:=by unfold z0a;rfl
  rw[e];exact q1d h
 | n + 1,[],text,out,h=>by
  have e:z0a (n + 1) [] text out=flush text out:=by unfold z0a;rfl
  rw[e];exact q1d h
 | n + 1,c :: t,text,out,h=>by
  unfold z0a
  split
  ·split
   ·exact z5z n _ _ out h
   ·exact q1d h
   ·exact z5z n _ _ out h
   ·rename_i k rest hk
    exact z5z n _ _ _ (j1g h (q7r hk))
  ·exact z5z n _ _ out h
theorem toks_adj (s:Bs):Adj false (toks s):=z5z _ _ _ _ (fun _ q=>q)
structure ToksR (l:List Tok):Prop where
 len:l.length≤3000
 ok:∀ t ∈ l,Bld.z6n t∧Fo.atB t.ats≤1048576
 adj:Adj false l
 bulk:Bld.tokB l≤549755813000
theorem q8q (s:Bs):ToksR (q2e s):=by
 unfold q2e
 by_cases h:3000 < s.length
 ·rw[if_pos h]
  exact⟨Nat.zero_le _,fun _ q=>(by cases q),trivial,Nat.zero_le _⟩
 ·rw[if_neg h]
  have h1:=j2x s;have h2:=j6t s;exact⟨by omega,fun x hx=>⟨q8r s x hx,by have:=atB_tokB hx;omega⟩,toks_adj s,by omega⟩
theorem ToksR.ats {l:List Tok} (h:ToksR l):∀ t ∈ l,t.ats.length≤33554432:=fun t ht=>by
 have h1:=(h.ok t ht).2;have h2:=z1l t.ats;omega
end Mk
namespace Go.Proofs.YtagleefekmdldaaGreatDoor
open Go.Proofs.Tryz Go.RowKit
theorem j01 (f:Mk.Fo) (v:Value) (K:Nat→Prop) (w:World) (hf:f.bulk≤1048576) (hv:FoV w K v f) (hK:∀ b,K b→b < w.heap.size) :
  Calls prog 14 #[v] w fun e w'=>∃ ao cap c l,e=.returned (.tuple #[.slice ao (List.length l) cap,.int .i64 c])∧z1b w' (fun b=>w.heap.size≤b∧b < w'.heap.size) (.slice ao (List.length l) cap) l∧Below w.heap.size w w'∧(Mk.z2h f=0→c=0∧l=Mk.flat f):=by
 have HC:=Ld (q0a f v K w (Nat.le_trans hf (by decide)) hv hK);obtain⟨c,hcc⟩:∃ c,Mk.z2h f=c:=⟨_,rfl⟩;rw[hcc] at HC;have HCC:=Ld hcc;clear hcc;have HV:=Ld hv;have HK:=Ld hK;obtain⟨ao,cap,xs,hv1,_⟩:=hv;subst hv1;clear hK;go_enter func14,ntmps14;go_wp2_with fail;refine HC.out.mono ?_;rintro e w1 ⟨rfl,hb1⟩;have B1:=Ld hb1
 by_cases hc:c=0
 ·subst hc
  have HO:=Ld (q70 (f.bulk + 1) f (Nat.lt_succ_self _) (by omega) _ K w1 (HV.out.below HK.out hb1) (fun b q=>Nat.lt_of_lt_of_le (HK.out b q) hb1.size));clear hb1 HC;go_wp2_with fail;refine HO.out.mono ?_;rintro e w2 ⟨v2,xs2,rfl,hv2,_,hb2⟩;have hv4:=hv2.toksV;obtain⟨ao2,cap2,hv3,_⟩:=hv4.at_
  subst hv3;have B2:=Ld (B1.out.trans (hb2.mono B1.out.size));have T2:=Ld (hv4.frame (K':=fun b=>w.heap.size≤b∧b < w2.heap.size) fun b q=>⟨⟨Nat.le_trans B1.out.size q.1,q.2⟩,rfl⟩);clear hv2 hv4 hb2 HO;go_wp2_with fail;go_ret2;exact⟨ao2,cap2,0,_,rfl,T2.out,B2.out,fun _=>⟨rfl,rfl⟩⟩
 ·have hcb:(c == 0)=false:=beq_eq_false_iff_ne.2 hc
  clear hb1 HC;go_wp2_with fail;go_ret2;exact⟨none,0,c,[],rfl,⟨none,0,[],rfl,.inl rfl,rfl,Nat.zero_le _⟩,B1.out,fun h=>absurd (HCC.out.symm.trans h) hc⟩
end Go.Proofs.YtagleefekmdldaaGreatDoor
namespace Mk
def s1:Bs:=[60,112,62,97,60,98,114,62,60,117,108,62,60,108,105,62,98,60,108,105,62,99,60,47,120,62]
def l1:List Tok:=[⟨2,[112],[],[]⟩,⟨1,[],[],[97]⟩,⟨2,[98,114],[],[]⟩,⟨2,[117,108],[],[]⟩,⟨2,[108,105],[],[]⟩,⟨1,[],[],[98]⟩,⟨2,[108,105],[],[]⟩,⟨1,[],[],[99]⟩,⟨3,[120],[],[]⟩]
theorem toks1:toks s1=l1:=by decide +kernel
theorem build1:build l1=page:=by decide +kernel
theorem adj1:Adj false l1:=by simp[Adj,l1]
theorem flat1:(flat page).length=12:=by decide +kernel
theorem ok1:∀ t ∈ l1,Bld.z6n t∧Fo.atB t.ats≤1048576:=fun t ht=>⟨by rw[← toks1] at ht;exact q8r s1 t ht,by revert t;decide⟩
end Mk
namespace Go.Proofs.YtagleefekmdldaaGreatDoor
open Go.Proofs.Tryz Go.RowKit
theorem q5w (w:World) (hg:Gl w) :
  Calls prog 4 #[] w fun e w'=>e=.returned (.bool true)∧Below w.heap.size w w':=by
 have hlt:=hg.lt;have hr:=q51 Mk.s1 w hg (by decide);rw[Mk.toks1] at hr;have HR:=Ld hr;clear hr;go_enter func4,ntmps4;go_wp2_with fail;refine HR.out.mono ?_;rintro e w1 ⟨v1,rfl,hv1,hb1⟩;have B1:=Ld hb1;have hbd:=j00 Mk.l1 v1 _ w1 hv1 (fun b q=>q.2) (by decide) Mk.ok1 Mk.adj1 (by decide);rw[Mk.build1] at hbd;have HB:=Ld hbd;obtain⟨ao1,cap1,hv1s,_,_⟩:=hv1.at_
 subst hv1s;clear hb1 HR hbd hv1;go_wp2_with fail;refine HB.out.mono ?_;rintro e w2 ⟨v2,rfl,hv2,hb2⟩;have B2:=Ld (B1.out.trans (hb2.mono B1.out.size));have HV2:Hid (FoV w2 (fun b=>b < w2.heap.size) v2 Mk.page):=hv2.frame (fun b q=>⟨q.2,rfl⟩);obtain⟨ao2,cap2,xs2,hv2s,_⟩:=hv2;subst hv2s;clear hb2 HB;go_wp2_with fail;refine(z8p w2).mono ?_;rintro e w3 ⟨v3,rfl,hv3,hb3⟩;have B3:=Ld (B2.out.trans (hb3.mono B2.out.size));have HV3:Hid (FoV w3 (fun b=>b < w3.heap.size) (.slice ao2 Mk.page.len cap2) Mk.page):=HV2.out.frame (fun b q=>⟨Nat.lt_of_lt_of_le q hb3.size,hb3.block b q⟩);have hfl:=j01 Mk.page v3 _ w3 (by decide) hv3 (fun b q=>q.2);have HF:=Ld hfl;clear hb3 hv3 HV2 hfl;go_wp2_with fail;refine HF.out.mono ?_;rintro e w4 ⟨ao4,cap4,c4,l4,rfl,_,hb4,h4⟩;obtain⟨h5,h6⟩:=h4 Mk.z6j;subst h5 h6;rw[Mk.flat1];clear h4;have B4:=Ld (B3.out.trans (hb4.mono B3.out.size));have HV4:Hid (FoV w4 (fun b=>b < w4.heap.size) (.slice ao2 Mk.page.len cap2) Mk.page):=HV3.out.frame (fun b q=>⟨Nat.lt_of_lt_of_le q hb4.size,hb4.block b q⟩);clear hb4 HF HV3;go_wp2_with fail;refine(z8p w4).mono ?_;rintro e w5 ⟨v5,rfl,hv5,hb5⟩;have B5:=Ld (B4.out.trans (hb5.mono B4.out.size));have HV5:Hid (FoV w5 (fun b=>b < w5.heap.size) (.slice ao2 Mk.page.len cap2) Mk.page):=HV4.out.frame (fun b q=>⟨Nat.lt_of_lt_of_le q hb5.size,hb5.block b q⟩);have hck:=q0a Mk.page v5 _ w5 (by decide) hv5 (fun b q=>q.2);rw[Mk.z6j] at hck;have HC:=Ld hck;clear hb5 hv5 HV4 hck;go_wp2_with fail;refine HC.out.mono ?_;rintro e w6 ⟨rfl,hb6⟩;have B6:=Ld (B5.out.trans (hb6.mono B5.out.size));have HV6:Hid (FoV w6 (fun b=>b < w6.heap.size) (.slice ao2 Mk.page.len cap2) Mk.page):=HV5.out.frame (fun b q=>⟨Nat.lt_of_lt_of_le q hb6.size,hb6.block b q⟩);clear hb6 HC HV5;go_wp2_with fail;refine(z8p w6).mono ?_;rintro e w7 ⟨v7,rfl,hv7,hb7⟩;have B7:=Ld (B6.out.trans (hb7.mono B6.out.size));have HV7:FoV w7 (fun b=>b < w7.heap.size) (.slice ao2 Mk.page.len cap2) Mk.page:=HV6.out.frame (fun b q=>⟨Nat.lt_of_lt_of_le q hb7.size,hb7.block b q⟩);have HSN:=Ld (z1k (Mk.page.bulk + 1) Mk.page (Nat.lt_succ_self _) (by decide) _ v7 _ _ w7 HV7 hv7 (fun b q=>q) (fun b q=>q.2));clear hb7 hv7 HV7 HV6 B1 B2 B3 B4 B5 B6;go_wp2_with fail;refine HSN.out.mono ?_;rintro e w8 ⟨rfl,hb8⟩;have B8:=Ld (B7.out.trans (hb8.mono B7.out.size));clear hb8 HSN B7;go_wp2_with fail;go_ret;exact⟨rfl,B8.out⟩
end Go.Proofs.YtagleefekmdldaaGreatDoor
namespace Mk
def Runs (q:UInt8→Bool) (l:Bs) (n:Nat):Prop:=n≤l.length∧∀ x ∈ l.take n,q x=true
theorem Runs.zero (q:UInt8→Bool) (l:Bs):Runs q l 0:=⟨Nat.zero_le _,fun x h=>by simp at h⟩
theorem Runs.succ {q:UInt8→Bool} {l:Bs} {n:Nat} (h:Runs q l n) (hn:n < l.length) (hq:q l[n]=true):Runs q l (n + 1):=by
 refine⟨hn,fun x hx=>?_⟩;rw[List.take_succ_eq_append_getElem hn] at hx
 rcases List.mem_append.1 hx with h1 | h1
 ·exact h.2 x h1
 ·rw[List.mem_singleton] at h1
  rw[h1];exact hq
theorem q6q (q:UInt8→Bool):∀ (l:Bs) (n:Nat),Runs q l n→(n=l.length∨∃ h:n < l.length,q l[n]=false)→l.takeWhile q=l.take n∧l.dropWhile q=l.drop n
 | [],n,_,_=>by simp
 | c :: t,0,_,h=>by
  rcases h with h | ⟨h,hq⟩
  ·simp at h
  ·have hq:q c=false:=hq
   rw[List.takeWhile_cons_of_neg (by rw[hq];decide),List.dropWhile_cons_of_neg (by rw[hq];decide)];exact⟨rfl,rfl⟩
 | c :: t,n + 1,hr,h=>by
  have hc:q c=true:=hr.2 c (by simp);obtain⟨e1,e2⟩:=q6q q t n ⟨by have:=hr.1;simpa using this,fun x hx=>hr.2 x (by simp[hx])⟩ (by
   rcases h with h | ⟨h,hq⟩
   ·exact .inl (by simpa using h)
   ·exact .inr ⟨by simpa using h,by simpa using hq⟩)
  rw[List.takeWhile_cons_of_pos hc,List.dropWhile_cons_of_pos hc,e1,e2];exact⟨rfl,rfl⟩
def z3w (l:Bs):Bs × Nat × Bool:=if (sign l).2.1=0 then ([],0,false) else sign l
theorem z3d (l:Bs) (c:UInt8) (n:Nat) (hn:n ≠ 0) (h:named l=some (c,n)):z3w l=([c],n,true):=by
 have e:sign l=([c],n,true):=by unfold sign;rw[h]
 unfold z3w;rw[e,if_neg hn]
theorem z4f (l:Bs) (h:named l=none) (h2:numbered l=none):z3w l=([],0,false):=by
 have e:sign l=([38],0,false):=by unfold sign;rw[h,h2]
 unfold z3w;rw[e,if_pos rfl]
theorem j6j (l:Bs) (p n:Nat) (hn:n ≠ 0) (h:named l=none) (h2:numbered l=some (p,n)):z3w l=if scalar p=true then (utf8 p,n,true) else ([239,191,189],n,false):=by
 have e:sign l=if scalar p=true then (utf8 p,n,true) else ([239,191,189],n,false):=by unfold sign;rw[h,h2]
 unfold z3w;rw[e]
 by_cases hs:scalar p=true
 ·rw[if_pos hs,if_neg hn]
 ·rw[if_neg hs,if_neg hn]
theorem q86 (l:Bs) (h:Mg.pre [38,35,120] l=true):numbered l=numAt 16 6 3 l:=by unfold numbered;rw[if_pos h]
theorem q85 (l:Bs) (h:Mg.pre [38,35,120] l=false) (h2:Mg.pre [38,35] l=true):numbered l=numAt 10 7 2 l:=by unfold numbered;rw[if_neg (by rw[h];decide),if_pos h2]
theorem pre_less (l:Bs) (h:Mg.pre [38,35] l=false):Mg.pre [38,35,120] l=false:=by
 match l,h with
 | [],_=>rfl
 | [a],h=>simp[Mg.pre] at h ⊢
 | a :: b :: t,h =>
  simp[Mg.pre] at h ⊢;intro h1 h2;exact absurd h2 (h h1)
theorem q87 (l:Bs) (h:Mg.pre [38,35] l=false):numbered l=none:=by unfold numbered;rw[if_neg (by rw[pre_less l h];decide),if_neg (by rw[h];decide)]
theorem j5l (b most ahead j:Nat) (l:Bs) (h:Runs (Y4 b) (l.drop ahead) j) (he:j=(l.drop ahead).length∨(∃ q:j < (l.drop ahead).length,Y4 b (l.drop ahead)[j]=false)∨most < j) :
  numAt b most ahead l=if j=0∨most < j then none else if Mg.isAt 59 ((l.drop ahead).drop j)=true then some (value b ((l.drop ahead).take j),ahead + j + 1) else none:=by
 unfold numAt;simp only;generalize l.drop ahead=r at h he ⊢
 by_cases hm:most < j
 ·have hle:j≤(r.takeWhile (Y4 b)).length:=by
   have e:r=r.take j++r.drop j:=(List.take_append_drop j r).symm;rw[e,List.takeWhile_append_of_pos h.2,List.length_append,List.length_take,Nat.min_eq_left h.1];exact Nat.le_add_right _ _
  rw[if_pos (.inr (by omega)),if_pos (.inr hm)]
 ·obtain⟨e1,e2⟩:=q6q (Y4 b) r j h (by rcases he with q | q | q;exact .inl q;exact .inr q;exact absurd q hm)
  rw[e1,List.length_take,Nat.min_eq_left h.1]
theorem j6z (b:Nat) (l:Bs) (c:UInt8):value b (l++[c])=value b l * b + z1i c.toNat:=by simp[value]
theorem j3d (b:Nat) (l:Bs) (j:Nat) (h:j < l.length):value b (l.take (j + 1))=value b (l.take j) * b + z1i l[j].toNat:=by
 rw[List.take_succ_eq_append_getElem h,j6z]
end Mk
