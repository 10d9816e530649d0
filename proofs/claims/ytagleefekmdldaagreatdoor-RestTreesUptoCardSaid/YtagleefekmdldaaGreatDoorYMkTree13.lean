/- Contract of the program's token of a tree's builder. Condition: at most 549755813880 nodes, attributes and letters together, and at most 8 open. -/
import Derived.Test.YtagleefekmdldaaGreatDoorYMkTok7
import Derived.Deep.RegionHeld3
import Derived.RegionTactic
import Derived.ChangeAlike
import Derived.Test.YtagleefekmdldaaGreatDoorYMkSame
set_option linter.unusedVariables false
set_option linter.unusedSimpArgs false
set_option maxHeartbeats 16000000
set_option maxRecDepth 100000
namespace Go.Proofs.YtagleefekmdldaaGreatDoor
open Go.Proofs.Tryz Go.RowKit
theorem j4o (args:Array Value) (w:World):(callFunc 93 args).run prog w=.ok (.enter 93 args) w:=Z7 func93 (by kernel_rfl) rfl _ _
def tokV (t:Mk.Tok) (va:Value):Value:=.agg #[.int .i64 t.kind,.string (st t.name),va,.string (st t.text)]
theorem token_1 (b:Mk.Bld) (t:Mk.Tok) (h:t.kind=1):b.token t=b.z3u [] [] t.text .nil:=by unfold Mk.Bld.token;rw[if_pos h]
theorem token_2 (b:Mk.Bld) (t:Mk.Tok) (h:t.kind=2):b.token t=if (b.close (Mk.stays b.names t.name)).ops.length=8 then b.close (Mk.stays b.names t.name) else if Mk.z0n t.name then (b.close (Mk.stays b.names t.name)).z3u t.name t.ats [] .nil else { b.close (Mk.stays b.names t.name) with open_:=(b.close (Mk.stays b.names t.name)).open_++[⟨t.name,t.ats,.nil⟩] }:=by
 unfold Mk.Bld.token;rw[if_neg (by omega),if_pos h,Mk.Bld.z5a]
theorem token_3 (b:Mk.Bld) (t:Mk.Tok) (h:t.kind=3):b.token t=match Mk.above t.name (fun _=>false) b.names with | none=>b | some i=>b.close i:=by
 unfold Mk.Bld.token;rw[if_neg (by omega),if_neg (by omega),if_pos h];rfl
theorem token_0 (b:Mk.Bld) (t:Mk.Tok) (h1:t.kind ≠ 1) (h2:t.kind ≠ 2) (h3:t.kind ≠ 3):b.token t=b:=by
 unfold Mk.Bld.token;rw[if_neg h1,if_neg h2,if_neg h3]
theorem and_hid {a b:Prop} (h:a∧b):Hid a∧Hid b:=⟨h.1,h.2⟩
theorem tr_token {w:World} {B P:Nat} {K:Nat→Prop} (b:Mk.Bld) (h:BldS w B P K b) (hbk:b.bulk≤549755813888) (hl:b.ops.length≤8) (t:Mk.Tok) (va:Value) (Kt:Nat→Prop) (hva:AtsV w Kt va t.ats) (hKt:∀ g,Kt g→g < B) (htb:t.name.length + t.text.length + Mk.Fo.atB t.ats≤549755813880) :
  Calls prog 57 #[.pointer (some ⟨P,0,none⟩),tokV t va] w fun e w'=>e=.returned (.tuple #[])∧BldR B P K (b.token t) w w':=by
 have hst:∀ l:List UInt8,(st l).toList=l:=fun l=>Lib.toList_data _
 obtain⟨aot,capt,hva1,hva2⟩:=id hva;subst hva1;have hB:B≤w.heap.size:=by obtain⟨_,_,_,_,q⟩:=h;exact q.blt
 have hal:=(Below.refl w.heap.size w).alloc (Lr) (.cells #[.int .i64 t.kind,.string (st t.name),.slice aot t.ats.length capt,.string (st t.text)] 52);have PB:=Ld (Blk.new w 52 #[.int .i64 t.kind,.string (st t.name),.slice aot t.ats.length capt,.string (st t.text)]);have H1:Hid (BldS _ B P (fun x=>K x∨x=w.heap.size) b):=h.grow hal (fun x e=>by subst e;simp);have HVA:Hid (AtsV _ Kt (.slice aot t.ats.length capt) t.ats):=hva.frame (fun g hg=>⟨hg,hal.block g (Nat.lt_of_lt_of_le (hKt g hg) hB)⟩);have HKT:=Ld hKt;have HFIN:Hid (∀ w',BldR B P (fun x=>K x∨x=w.heap.size) (b.token t) (w.alloc (.cells #[.int .i64 t.kind,.string (st t.name),.slice aot t.ats.length capt,.string (st t.text)] 52)) w'→BldR B P K (b.token t) w w'):=fun w' q=>BldR.step (fun x q=>.inl q) (Ap.of_below hal) q
 have HK1:Hid ((fun x=>K x∨x=w.heap.size) w.heap.size):=.inr rfl;have hTB:w.heap.size < (w.alloc (.cells #[.int .i64 t.kind,.string (st t.name),.slice aot t.ats.length capt,.string (st t.text)] 52)).heap.size:=by simp
 unfold tokV;clear h hva hva2 hKt hal;go_enter func57,ntmps57;go_upto_region 1 with fail;generalize (fun x=>K x∨x=w.heap.size)=K1 at H1 HFIN HK1;generalize hw1:(w.alloc (.cells #[.int .i64 t.kind,.string (st t.name),.slice aot t.ats.length capt,.string (st t.text)] 52))=w1 at PB H1 HVA HFIN hTB ⊢;clear hw1;generalize w.heap.size=T at PB HK1 hTB hB ⊢;have hTl:T < w1.heap.size:=hTB;have k0:w1.cell? ⟨T,0,none⟩=some (.int .i64 t.kind):=Blk.cell PB.out 0;have k1:w1.cell? ⟨T,1,none⟩=some (.string (st t.name)):=Blk.cell PB.out 1;have k2:w1.cell? ⟨T,2,none⟩=some (.slice aot t.ats.length capt):=Blk.cell PB.out 2;have k3:w1.cell? ⟨T,3,none⟩=some (.string (st t.text)):=Blk.cell PB.out 3
 by_cases h1:t.kind=1
 ·have HT:Hid (b.token t=b.z3u [] [] t.text .nil):=token_1 b t h1
  rw[h1] at k0 PB ⊢;clear h1;have hput:=j6v H1.out [] [] t.text (.slice none 0 0) (AtsV.nil _ _) (by show b.bulk + (1 + 0 + t.text.length + 0)≤_;omega) (by omega);have HPUT:=Ld hput;clear hput;go_wp2_with fail;refine HPUT.out.mono ?_;rintro e w2 ⟨rfl,hb2,ha2⟩;have HE:=Ld (HFIN.out w2 (BldR.of (by rw[HT.out];exact hb2) ha2));clear hb2 ha2 HPUT HFIN HT k0 k1 k2 k3;go_wp2_with fail;go_end0;exact⟨rfl,HE.out⟩
 ·by_cases h2:t.kind=2
  ·have HT:=Ld (token_2 b t h2)
   rw[h2] at k0 PB ⊢;clear h1 h2;have hcl:(b.close (Mk.stays b.names t.name)).ops.length≤8:=Nat.le_trans (b.q0w _) hl;have hcb:(b.close (Mk.stays b.names t.name)).bulk≤549755813888:=Nat.le_trans (b.z8j _) hbk;have hsl:Mk.stays b.names t.name≤1048576:=by have:=Mk.j6l b.names t.name;rw[b.z7x] at this;omega
   go_upto_region 5 with fail;have HN:=Ld (j02 b (H1.out.below (Below.refl _ _).drew) (by omega));have HFR:Hid (∀ W,Ap (fun x=>B≤x∧¬ K1 x) w1 W→W.cell? ⟨T,1,none⟩=some (.string (st t.name))):=fun W hW=>(cell_of_block (hW.block T hTl (fun q=>q.2 HK1.out)) _).trans k1
   have hnl:=b.z7x;have HNL:Hid (b.names.length≤33554432):=by show _≤_;omega
   have HCL:Hid (∀ W,BldS W B P K1 b→Calls prog 58 #[.pointer (some ⟨P,0,none⟩),.int .i64 (Mk.stays b.names t.name)] W fun e w'=>e=.returned (.tuple #[])∧BldR B P K1 (b.close (Mk.stays b.names t.name)) W w'):=fun W hW=>q54 b hW _ hsl hbk (by omega)
   clear hnl hsl;generalize b.close (Mk.stays b.names t.name)=c at HT HCL hcl hcb
   go_cut [] (fun wx=>Hid (BldR B P K1 c w1 wx))
   case first =>
    clear k0 k1 k2 k3;have k1:w1.cell? ⟨T,1,none⟩=some (.string (st t.name)):=Blk.cell PB.out 1
    go_region_held3 (fun w'=>w'.cell? ⟨T,1,none⟩=some (.string (st t.name))) (first
     | exact HFR.out _ ((Ap.refl _ _).drew)
     | exact HFR.out _ (Ap.of_below hB2)
     | exact HFR.out _ hA4) (first | (go_at_call 91;refine HN.out.mono ?_;rintro e w2 ⟨v2,rfl,ow2,hb2⟩;have hB2:Below w1.heap.size w1 w2:=((Below.refl _ _).drew).trans hb2;have SV2:=Ld (z18.of_own (K:=fun _=>True) ow2 (fun _ _=>trivial));have BL2:=Ld (H1.out.below hB2);clear ow2 hb2) | (go_at_call 90;refine(q55 b.names t.name _ _ _ SV2.out HNL.out).mono ?_;rintro e w3 ⟨rfl,rfl⟩) | (go_at_call 58;refine(HCL.out _ BL2.out).mono ?_;rintro e w4 ⟨rfl,hr4⟩;have HR4:Hid (BldR B P K1 c w1 w4):=BldR.step (fun _ q=>q) (Ap.of_below hB2) hr4;have hA4:Ap (fun x=>B≤x∧¬ K1 x) w1 w4:=(by obtain⟨_,_,_,q⟩:=HR4.out;exact q);clear hr4))
    all_goals
     go_wp2_with fail;go_meet
     case rel=>exact HR4.out
   case rest =>
    obtain⟨K2,hK2,hb2,ha2⟩:=hcut.out;clear hcut;obtain⟨wb,hwb⟩:∃ x,x=wc:=⟨_,rfl⟩;subst hwb;have hTb:T < wb.heap.size:=Nat.lt_of_lt_of_le hTl ha2.size;have hw1b:wb.heap[T]? = w1.heap[T]?:=ha2.block T hTl (fun q=>q.2 HK1.out);have m1:wb.cell? ⟨T,1,none⟩=some (.string (st t.name)):=(cell_of_block hw1b _).trans k1;have m2:wb.cell? ⟨T,2,none⟩=some (.slice aot t.ats.length capt):=(cell_of_block hw1b _).trans k2;have hBb:B≤wb.heap.size:=by omega
    have HVB:Hid (AtsV wb Kt (.slice aot t.ats.length capt) t.ats):=HVA.out.frame (fun g hg=>⟨hg,ha2.block g (by have:=HKT.out g hg;omega) (fun q=>by have:=HKT.out g hg;omega)⟩);have hatl:=Mk.z1l t.ats;have HCLN:Hid (∀ W,Below wb.heap.size wb W→Calls prog 59 #[.slice aot t.ats.length capt] W fun e w'=>∃ v',e=.returned v'∧w'.ownsRow W.heap.size 73 2 v' t.ats.length (Z5 t.ats)∧Below W.heap.size W w'):=fun W hW=>q91 t.ats _ Kt W (HVB.out.frame (fun g hg=>⟨hg,hW.block g (by have:=HKT.out g hg;omega)⟩)) (fun g hg=>by have:=HKT.out g hg;have:=hW.size;omega) (by omega)
    have HFR2:Hid (∀ W,Below wb.heap.size wb W→W.cell? ⟨T,1,none⟩=some (.string (st t.name))∧W.cell? ⟨T,2,none⟩=some (.slice aot t.ats.length capt)):=fun W hW=>⟨(hW.cell (p:=⟨T,1,none⟩) hTb).trans m1,(hW.cell (p:=⟨T,2,none⟩) hTb).trans m2⟩
    have HB2:=Ld hb2;have HA2:=Ld ha2;have HK2:=Ld hK2;clear k0 k1 k2 k3 hb2 ha2 hK2 hw1b hatl HVA HCL HN HFR HNL PB H1;go_upto_region 6 with fail
    go_cut [4] (fun p wx=>∃ N ao7 cap7,p=.pointer (some ⟨N,0,none⟩)∧Hid (wb.heap.size≤N)∧Hid (Below wb.heap.size wb wx)∧Hid (Blk wx N 38 #[.string (st t.name),.slice ao7 t.ats.length cap7,.string ⟨#[]⟩,.slice none 0 0])∧Hid (AtsV wx (fun g=>wb.heap.size≤g∧g < wx.heap.size) (.slice ao7 t.ats.length cap7) t.ats))
    case first =>
     go_region_held3 (fun w'=>w'.cell? ⟨T,1,none⟩=some (.string (st t.name))∧w'.cell? ⟨T,2,none⟩=some (.slice aot t.ats.length capt)) (first
      | exact HFR2.out _ hB7
      | exact HFR2.out _ (hB7.alloc hB7.size _)
      | exact HFR2.out _ ((Below.refl _ _).drew)
      | exact HFR2.out _ (((Below.refl _ _).drew).alloc (Lr) _)
      | exact HFR2.out _ ((((hB7.setCell (p:=⟨wb.heap.size,0,none⟩) (Lr) _).setCell (p:=⟨wb.heap.size,1,none⟩) (Lr) _).setCell (p:=⟨wb.heap.size,2,none⟩) (Lr) _).setCell (p:=⟨wb.heap.size,3,none⟩) (Lr) _)) (first | (go_at_call 59;refine(HCLN.out _ ?_).mono ?_;(first | exact(Below.refl _ _).drew | exact((Below.refl _ _).drew).alloc (Lr) _);rintro e w7 ⟨v7,rfl,ow7,hb7⟩;obtain⟨ao7,cap7,rfl⟩:=Y1 ow7;have hB7:Below wb.heap.size wb w7:=(by first | exact((Below.refl _ _).drew).trans (hb7.mono (Lr)) | exact(((Below.refl _ _).drew).alloc (Lr) _).trans (hb7.mono (by simp)));(try (have z0:w7.cell? ⟨wb.heap.size,0,none⟩=some (.string ⟨#[]⟩):=(hb7.cell (p:=⟨wb.heap.size,0,none⟩) (by simp)).trans (Blk.cell (Blk.new wb.drew 38 #[.string ⟨#[]⟩,.slice none 0 0,.string ⟨#[]⟩,.slice none 0 0]) 0)));(try (have z1:w7.cell? ⟨wb.heap.size,1,none⟩=some (.slice none 0 0):=(hb7.cell (p:=⟨wb.heap.size,1,none⟩) (by simp)).trans (Blk.cell (Blk.new wb.drew 38 #[.string ⟨#[]⟩,.slice none 0 0,.string ⟨#[]⟩,.slice none 0 0]) 1)));(try (have z2:w7.cell? ⟨wb.heap.size,2,none⟩=some (.string ⟨#[]⟩):=(hb7.cell (p:=⟨wb.heap.size,2,none⟩) (by simp)).trans (Blk.cell (Blk.new wb.drew 38 #[.string ⟨#[]⟩,.slice none 0 0,.string ⟨#[]⟩,.slice none 0 0]) 2)));(try (have z3:w7.cell? ⟨wb.heap.size,3,none⟩=some (.slice none 0 0):=(hb7.cell (p:=⟨wb.heap.size,3,none⟩) (by simp)).trans (Blk.cell (Blk.new wb.drew 38 #[.string ⟨#[]⟩,.slice none 0 0,.string ⟨#[]⟩,.slice none 0 0]) 3)));(try (have g0:w7.frozen? ⟨wb.heap.size,0,none⟩=false:=(hb7.frozen (p:=⟨wb.heap.size,0,none⟩) (by simp)).trans (Blk.frozen (Blk.new wb.drew 38 #[.string ⟨#[]⟩,.slice none 0 0,.string ⟨#[]⟩,.slice none 0 0]) 0)));(try (have g1:w7.frozen? ⟨wb.heap.size,1,none⟩=false:=(hb7.frozen (p:=⟨wb.heap.size,1,none⟩) (by simp)).trans (Blk.frozen (Blk.new wb.drew 38 #[.string ⟨#[]⟩,.slice none 0 0,.string ⟨#[]⟩,.slice none 0 0]) 1)));(try (have g2:w7.frozen? ⟨wb.heap.size,2,none⟩=false:=(hb7.frozen (p:=⟨wb.heap.size,2,none⟩) (by simp)).trans (Blk.frozen (Blk.new wb.drew 38 #[.string ⟨#[]⟩,.slice none 0 0,.string ⟨#[]⟩,.slice none 0 0]) 2)));(try (have g3:w7.frozen? ⟨wb.heap.size,3,none⟩=false:=(hb7.frozen (p:=⟨wb.heap.size,3,none⟩) (by simp)).trans (Blk.frozen (Blk.new wb.drew 38 #[.string ⟨#[]⟩,.slice none 0 0,.string ⟨#[]⟩,.slice none 0 0]) 3)))))
     ·have hBF:=hB7.alloc hB7.size (.cells #[.string (st t.name),.slice ao7 t.ats.length cap7,.string ⟨#[]⟩,.slice none 0 0] 38)
      have hs7:=hB7.size;have at7:AtsV w7 (fun g=>wb.heap.size≤g∧g < w7.heap.size) (.slice ao7 t.ats.length cap7) t.ats:=AtsV.of_own ow7 (fun g hg=>⟨(ow7.lt g hg).1,(ow7.lt g hg).2⟩);have atF:AtsV (w7.alloc (.cells #[.string (st t.name),.slice ao7 t.ats.length cap7,.string ⟨#[]⟩,.slice none 0 0] 38)) (fun g=>wb.heap.size≤g∧g < (w7.alloc (.cells #[.string (st t.name),.slice ao7 t.ats.length cap7,.string ⟨#[]⟩,.slice none 0 0] 38)).heap.size) (.slice ao7 t.ats.length cap7) t.ats:=at7.frame (fun g hg=>⟨⟨hg.1,by have:=hg.2;simp;omega⟩,Below.heap_alloc w7 _ g hg.2⟩);have HREL:=Ld (And.intro hs7 (And.intro hBF (And.intro (Blk.new w7 38 #[.string (st t.name),.slice ao7 t.ats.length cap7,.string ⟨#[]⟩,.slice none 0 0]) atF)));clear hBF at7 atF HFR2 HCLN;go_wp2_with fail;go_meet
      case rel=>exact⟨w7.heap.size,ao7,cap7,rfl,HREL.out.1,HREL.out.2.1,HREL.out.2.2.1,HREL.out.2.2.2⟩
     ·have hBF:=((((hB7.setCell (p:=⟨wb.heap.size,0,none⟩) (Lr) (.string (st t.name))).setCell (p:=⟨wb.heap.size,1,none⟩) (Lr) (.slice ao7 t.ats.length cap7)).setCell (p:=⟨wb.heap.size,2,none⟩) (Lr) (.string ⟨#[]⟩)).setCell (p:=⟨wb.heap.size,3,none⟩) (Lr) (.slice none 0 0))
      have hs7:=hB7.size;have b7:Blk w7 wb.heap.size 38 #[.string ⟨#[]⟩,.slice none 0 0,.string ⟨#[]⟩,.slice none 0 0]:=(hb7.block wb.heap.size (by simp)).trans (Blk.new wb _ _);have at7:AtsV w7 (fun g=>wb.heap.size < g∧g < w7.heap.size) (.slice ao7 t.ats.length cap7) t.ats:=AtsV.of_own ow7 (fun g hg=>⟨by have:=(ow7.lt g hg).1;simp at this;omega,(ow7.lt g hg).2⟩);have atF:=at7.frame (w':=((((w7.setCell ⟨wb.heap.size,0,none⟩ (.string (st t.name))).setCell ⟨wb.heap.size,1,none⟩ (.slice ao7 t.ats.length cap7)).setCell ⟨wb.heap.size,2,none⟩ (.string ⟨#[]⟩)).setCell ⟨wb.heap.size,3,none⟩ (.slice none 0 0))) (K':=fun g=>wb.heap.size≤g∧g < ((((w7.setCell ⟨wb.heap.size,0,none⟩ (.string (st t.name))).setCell ⟨wb.heap.size,1,none⟩ (.slice ao7 t.ats.length cap7)).setCell ⟨wb.heap.size,2,none⟩ (.string ⟨#[]⟩)).setCell ⟨wb.heap.size,3,none⟩ (.slice none 0 0)).heap.size) (fun g hg=>⟨⟨by have:=hg.1;omega,by have:=hg.2;simpa [World.setCell] using this⟩,by
       have hne:g ≠ wb.heap.size:=by have:=hg.1;omega
       rw[Below.heap_setCell _ ⟨wb.heap.size,3,none⟩ _ g hne,Below.heap_setCell _ ⟨wb.heap.size,2,none⟩ _ g hne,Below.heap_setCell _ ⟨wb.heap.size,1,none⟩ _ g hne,Below.heap_setCell _ ⟨wb.heap.size,0,none⟩ _ g hne]⟩)
      have HREL:=Ld (And.intro hBF (And.intro (Blk.set_ (Blk.set_ (Blk.set_ (Blk.set_ b7 0 (.string (st t.name))) 1 (.slice ao7 t.ats.length cap7)) 2 (.string ⟨#[]⟩)) 3 (.slice none 0 0)) atF));clear hBF at7 atF HFR2 HCLN b7;go_wp2_with fail;go_meet
      case rel=>exact⟨wb.heap.size,ao7,cap7,rfl,Lr,HREL.out.1,HREL.out.2.1,HREL.out.2.2⟩
    case rest =>
     obtain⟨N,ao7,cap7,rfl,HNB,HBL,PN,HVN⟩:=hcut;obtain⟨wd,hwd⟩:∃ x,x=wc:=⟨_,rfl⟩;subst hwd;have hb4:BldS wd B P (fun x=>K2 x∨(wb.heap.size≤x∧x < wd.heap.size)) c:=HB2.out.grow HBL.out (fun x q=>q);have HKN:Hid ((fun x=>K2 x∨(wb.heap.size≤x∧x < wd.heap.size)) N):=.inr ⟨HNB.out,Blk.lt PN.out⟩;have HV4:Hid (AtsV wd (fun x=>K2 x∨(wb.heap.size≤x∧x < wd.heap.size)) (.slice ao7 t.ats.length cap7) t.ats):=HVN.out.frame (fun g hg=>⟨.inr hg,rfl⟩);have HK4:Hid (∀ x,K1 x→(fun x=>K2 x∨(wb.heap.size≤x∧x < wd.heap.size)) x):=fun x q=>.inl (HK2.out x q)
     have HA4:Hid (Ap (fun x=>B≤x∧¬ K1 x) w1 wd):=HA2.out.trans (Ap.of_below HBL.out);have n1:wd.cell? ⟨T,1,none⟩=some (.string (st t.name)):=(HBL.out.cell (p:=⟨T,1,none⟩) hTb).trans m1;have r0:wd.cell? ⟨N,0,none⟩=some (.string (st t.name)):=Blk.cell PN.out 0;have r1:wd.cell? ⟨N,1,none⟩=some (.slice ao7 t.ats.length cap7):=Blk.cell PN.out 1;have r2:wd.cell? ⟨N,2,none⟩=some (.string (st [])):=Blk.cell PN.out 2;have r3:wd.cell? ⟨N,3,none⟩=some (.slice none 0 0):=Blk.cell PN.out 3;have hNl:N < wd.heap.size:=Blk.lt PN.out;have hBd:B≤wd.heap.size:=Nat.le_trans hBb HBL.out.size;generalize (fun x=>K2 x∨(wb.heap.size≤x∧x < wd.heap.size))=K4 at hb4 HKN HV4 HK4;clear HB2 HA2 HK2 HVN HBL HNB HFR2 HCLN HVB m1 m2 hTb hBb PN HKT hTB hTl;obtain⟨vn,vo,ns,xo,hb4⟩:=hb4;obtain⟨aoo,capo,hvo⟩:=Y1 hb4.ro;subst hvo;obtain⟨aon,capn,hvn⟩:=Y1 hb4.rn;subst hvn;have c1:wd.cell? ⟨P,1,none⟩=some (.slice aoo c.ops.length capo):=Blk.cell hb4.blk 1;have hNo:(Value.slice aoo c.ops.length capo).ownBlock ≠ some N:=fun e=>(hb4.do_ N e).2.1 HKN.out
     have HB4:=Ld hb4;have hfl:=c.q7p;clear hb4
     by_cases h8:c.ops.length=8
     ·have HE:=Ld (HFIN.out wd ⟨K4,HK4.out,(by rw[HT.out,if_pos h8];exact⟨_,_,_,_,HB4.out⟩),HA4.out⟩)
      have h8':(c.ops.length:Int)=8:=by omega
      clear HFIN HT HB4 h8;go_wp2_with fail;go_end0;exact⟨rfl,HE.out⟩
     ·have HT2:Hid (b.token t=if Mk.z0n t.name then c.z3u t.name t.ats [] .nil else { c with open_:=c.open_++[⟨t.name,t.ats,.nil⟩] }):=by show _=_;rw[HT.out,if_neg h8]
      have h8':¬ (c.ops.length:Int)=8:=by omega
      have hem:=q52 t.name wd;obtain⟨eb,heb⟩:∃ eb,Mk.z0n t.name=eb:=⟨_,rfl⟩;rw[heb] at hem HT2;have HEM:=Ld hem;clear hem heb HT h8
      cases eb with
      | true =>
       have HPUT:=Ld (j6v (b:=c) ⟨_,_,_,_,HB4.out⟩ t.name t.ats [] (.slice ao7 t.ats.length cap7) HV4.out (by simp only [List.length_nil];omega) (by omega));go_wp2_with fail;refine HEM.out.mono ?_;rintro e w5 ⟨rfl,hw5⟩;subst w5;unfold z0d at HPUT;go_wp2_with fail;refine HPUT.out.mono ?_;rintro e w6 ⟨rfl,hb6,ha6⟩;have HE:=Ld (HFIN.out w6 (BldR.step HK4.out HA4.out (BldR.of (by rw[HT2.out];exact hb6) ha6)));clear HFIN HT2 HB4 HPUT hb6 ha6 c1 n1 r0 r1 r2 r3 HEM;go_wp2_with fail;go_end0;exact⟨rfl,HE.out⟩
      | false =>
       go_wp2_with fail;refine HEM.out.mono ?_;rintro e w5 ⟨rfl,hw5⟩;subst w5;go_upto_region 7 with fail
       go_cut [] (fun wx=>∃ vo' xo',Hid (BldV wx B P K4 c.fos (c.ops++[(t.name,t.ats)]) (.slice aon c.fos.length capn) vo' ns xo')∧Hid (Ap (fun x=>B≤x∧¬ K4 x) wd wx))
       case first =>
        obtain⟨i0,hi,hz0,hz1,hz2⟩:=info_parts Tryz.infoNode;have OW10:=Ld (X8 HB4.out.ro (((Ap.refl (fun _=>False) wd).drew).alloc (.cells #[.string ⟨#[]⟩,.slice none 0 0,.string ⟨#[]⟩,.slice none 0 0] 38)) (fun _ _ q=>q));have hlf1:(c.ops.length:Int) < c.ops.length + 1:=by omega
        have hlf:c.ops.length≤8:=hcl;have HLF:=Ld hlf;have HNL:=Ld hNl;have HNO:=Ld hNo;have hPl:P < wd.heap.size:=Blk.lt HB4.out.blk;clear hbk hl htb hst hcb hfl h8' n1 hlf hcl hNo
        go_region_law (refine Y7 rfl (.tmp 33) (.tmp 36) 22 rfl B 38 i0 (.agg #[.string ⟨#[]⟩,.slice none 0 0,.string ⟨#[]⟩,.slice none 0 0]) 4 80 underlying22 hi hz0 hz1 hz2 rfl (by decide) (.slice aoo c.ops.length capo) c.ops.length xo (by simp[Act.eval,Act.put]) OW10.out ⟨wd.heap.size,0,none⟩ 1 1 [.string ⟨#[]⟩,.slice none 0 0,.string ⟨#[]⟩,.slice none 0 0] (by simp[Act.eval,Act.put]) rfl (Y9 wd.drew _ _) (by intro u hu;simp at hu;rcases hu with rfl | rfl | rfl | rfl <;> rfl) (by decide) (by have:=HLF.out;unfold maxLen;omega) (by have:=HLF.out;omega) (by simp;omega) ?_;intro v' w10 hown' hgrow hfresh;have hb9:=(((Below.refl _ wd).alloc (Lr) (.cells #[.string ⟨#[]⟩,.slice none 0 0,.string ⟨#[]⟩,.slice none 0 0] 38)).drew);obtain⟨g',cap',hv',k0,k1,k2,k3,hfz,hgg,hPB,hwn⟩:=j0l HB4.out hb9 hown' hgrow hfresh;subst hv';have kn:=Blk.cell hPB 1;have fn:=Blk.frozen hPB 1;have z0:=hfz (c.ops.length * 4);have z1:=hfz (c.ops.length * 4 + 1);have z2:=hfz (c.ops.length * 4 + 2);have z3:=hfz (c.ops.length * 4 + 3);have HD:=Ld (fun wF hF h1 h2 h3=>q0q (wF:=wF) HB4.out hb9 hown' hgrow hfresh hgg HV4.out (n:=t.name) hF h1 h2 h3);have hwb:=hwn N HNL.out HNO.out;have m0:=(cell_of_block hwb 0).trans r0;have m1:=(cell_of_block hwb 1).trans r1;have m2:=(cell_of_block hwb 2).trans r2;have m3:=(cell_of_block hwb 3).trans r3;clear hfz hown' hgrow hfresh hb9 hwn hwb hPB)
        all_goals
         clear k0 k1 k2 k3 kn fn m0 m1 m2 m3 z0 z1 z2 z3 OW10 hi hz0 hz1 hz2 hgg HLF HNL HNO HV4 HB4 r0 r1 r2 r3 c1 HEM HFIN HT2;go_wp2_with fail;go_meet
         case rel=>exact⟨_,_,and_hid (HD.out _ (by first | exact .inl (by with_reducible rfl) | exact .inr (by with_reducible rfl)) (by simp only [q3h]) (by simp only [z9h]) (by simp only [z6v]))⟩
       case rest =>
        obtain⟨vo',xo',HB5,HA5⟩:=hcut;obtain⟨we,hwe⟩:∃ x,x=wc:=⟨_,rfl⟩;subst hwe;clear r0 r1 r2 r3 n1 c1 HB4 HV4 HEM HKN hNo hNl;have c0:we.cell? ⟨P,0,none⟩=some (.slice aon c.fos.length capn):=Blk.cell HB5.out.blk 0;have hPe:P < we.heap.size:=Blk.lt HB5.out.blk;have hBe:B≤we.heap.size:=HB5.out.blt;obtain⟨i1,hi,hz0,hz1,hz2⟩:=info_parts Tryz.infoRow;have ow10:=X8 HB5.out.rn ((Ap.refl (fun _=>False) we).alloc (.cells #[.slice none 0 0] 22)) (fun _ _ q=>q);have HNEW:Hid (∀ j u,[Value.slice none 0 0][j]? = some u→(we.alloc (.cells #[.slice none 0 0] 22)).cell? ((⟨we.heap.size,0,none⟩:Addr).add j)=some u):=cell_one_new we (.slice none 0 0) 22;have hfl9:c.fos.length≤9:=by omega
        clear hbk hl htb hst hcb hfl h8' hcl;go_wp2_with (at_builtin;refine Q9 rfl _ _ 90 rfl B 22 i1 (.slice none 0 0) 1 24 underlying90 hi hz0 hz1 hz2 rfl (by decide) _ _ _ rfl ow10 ⟨we.heap.size,0,none⟩ 1 1 [.slice none 0 0] rfl rfl HNEW.out (one_cell _ rfl) (by decide) (by unfold maxLen;omega) (by omega) (by simp;omega) ?_);intro v' w9 hown' hgrow hfresh;obtain⟨ao9,cap9,hv9⟩:=Y1 hown';subst hv9;obtain⟨hP9,hb9,ha9⟩:=j3u HB5.out ((Below.refl _ we).alloc (Lr) (.cells #[.slice none 0 0] 22)) hown' hgrow (by rw[World.size_alloc];exact hfresh);have HE:=Ld (HFIN.out _ (BldR.step HK4.out HA4.out (BldR.of (by rw[HT2.out,if_neg (by decide)];exact BldS.pushed (w:=w) hb9) (HA5.out.trans ha9))));have d0:w9.cell? ⟨P,0,none⟩=some (.slice aon c.fos.length capn):=Blk.cell hP9 0;have g0:w9.frozen? ⟨P,0,none⟩=false:=Blk.frozen hP9 0;clear hb9 ha9 hP9 hown' hgrow hfresh HNEW ow10 hi hz0 hz1 hz2 HFIN HT2 HB5 HA5 HA4 HK4 c0;go_wp2_with fail;go_end0;exact⟨rfl,HE.out⟩
  ·by_cases h3:t.kind=3
   ·have HT:=Ld (token_3 b t h3)
    rw[h3] at k0 PB ⊢;clear h1 h2 h3;go_upto_region 13 with fail;have hn:=j02 b (H1.out.below (Below.refl _ _).drew) (by omega);have HN:=Ld hn;have HFR:Hid (∀ W,Below w1.heap.size w1 W→W.cell? ⟨T,1,none⟩=some (.string (st t.name))):=fun W hW=>(hW.cell (p:=⟨T,1,none⟩) hTl).trans k1
    have hnl:=b.z7x;have HNL:Hid (b.names.length≤33554432):=by show _≤_;omega
    clear hn hnl
    go_cut [5] (fun v wx=>v=optV (Mk.above t.name (fun _=>false) b.names)∧Hid (BldS wx B P K1 b)∧Hid (Below w1.heap.size w1 wx))
    case first =>
     go_region_held3 (fun w'=>w'.cell? ⟨T,1,none⟩=some (.string (st t.name))) (first
      | exact HFR.out _ ((Below.refl _ _).drew)
      | exact HFR.out _ hB2) (first | (go_at_call 91;refine HN.out.mono ?_;rintro e w2 ⟨v2,rfl,ow2,hb2⟩;have hB2:Below w1.heap.size w1 w2:=((Below.refl _ _).drew).trans hb2;have SV2:=Ld (z18.of_own (K:=fun _=>True) ow2 (fun _ _=>trivial));have BL2:=Ld (H1.out.below hB2);clear ow2 hb2) | (go_at_call 92;refine(q53 _ (fun _=>false) j4o tr_none b.names t.name _ _ _ SV2.out HNL.out).mono ?_;rintro e w3 ⟨rfl,rfl⟩))
     all_goals
      go_wp2_with fail;go_meet
      case rel=>exact⟨rfl,BL2.out,hB2⟩
    case rest =>
     obtain⟨rfl,HB2,HBL⟩:=hcut;obtain⟨o,ho⟩:∃ o,Mk.above t.name (fun _=>false) b.names=o:=⟨_,rfl⟩;rw[ho] at HT ⊢;have HO:=Ld ho;clear ho k0 k1 k2 k3
     cases o with
     | none =>
      have HE:=Ld (HFIN.out wc (BldR.of (by rw[HT.out];exact HB2.out) (Ap.of_below HBL.out)));clear HT;unfold optV;go_wp2_with fail;go_end0;exact⟨rfl,HE.out⟩
     | some i =>
      have hi:=Mk.q3t _ _ _ _ HO.out;have hnl:=b.z7x;have HC:=Ld (q54 b HB2.out i (by omega) hbk (by omega));clear hi hnl;unfold optV;go_wp2_with fail;refine HC.out.mono ?_;rintro e w3 ⟨rfl,hr3⟩;have HE:=Ld (HFIN.out w3 (BldR.step (fun _ q=>q) (Ap.of_below HBL.out) (by rw[HT.out];exact hr3)));clear HT HC hr3;go_wp2_with fail;go_end0;exact⟨rfl,HE.out⟩
   ·have HE:=Ld (HFIN.out w1 (BldR.of (by rw[token_0 b t h1 h2 h3];exact H1.out) (Ap.refl _ _)))
    go_wp2_with fail;go_end0;exact⟨rfl,HE.out⟩
end Go.Proofs.YtagleefekmdldaaGreatDoor
namespace Mk
namespace Bld
theorem z9b:∀ (n:Nat) (b:Bld),(ops (z3z n b)).length=(ops b).length - n
 | 0,_=>rfl
 | n + 1,b=>by
  have h1:=z9b n b.pop;have h2:=q4k b;show (ops (z3z n b.pop)).length=_;omega
theorem q9y:∀ l:List Tok,2 * l.length≤tokB l
 | []=>Nat.zero_le _
 | t :: r=>by
  have:=q9y r;rw[z5y,List.length_cons];omega
theorem j0v (b:Bld):ops (b.close 0)=[]:=by
 have h:=z9b (b.open_.length - 0) b;have h2:=z5a b;exact List.eq_nil_of_length_eq_zero (by show (ops (z3z (b.open_.length - 0) b)).length=0;omega)
theorem fos_zero (b:Bld) (h:ops b=[]):fos b=[b.root]:=by
 have h2:=z5a b;have:b.open_=[]:=List.eq_nil_of_length_eq_zero (by rw[← h2,h];rfl);simp[fos,this]
end Bld
end Mk
namespace Go.Proofs.YtagleefekmdldaaGreatDoor
open Go.Proofs.Tryz Go.RowKit
theorem z0j.at_ {w:World} {K:Nat→Prop}:∀ {l:List Mk.Tok} {xs:List Value},z0j w K l xs→∀ (i:Nat) (t:Mk.Tok),l[i]? = some t→∃ va,AtsV w K va t.ats∧xs[i * 4]? = some (.int .i64 t.kind)∧xs[i * 4 + 1]? = some (.string (st t.name))∧xs[i * 4 + 2]? = some va∧xs[i * 4 + 3]? = some (.string (st t.text))
 | [],_,_,i,t,hi=>by simp at hi
 | o :: r,_,⟨vb,ys,h1,h2,h3⟩,0,t,hi=>by
  simp at hi;subst hi;rw[h1];exact⟨vb,h2,rfl,rfl,rfl,rfl⟩
 | o :: r,_,⟨vb,ys,h1,h2,h3⟩,i + 1,t,hi=>by
  obtain⟨va,e0,e1,e2,e3,e4⟩:=z0j.at_ h3 i t (by simpa using hi)
  rw[h1];refine⟨va,e0,?_,?_,?_,?_⟩
  ·rw[show (i + 1) * 4=i * 4 + 4 by omega,List.getElem?_append_right (by simp)];simpa using e1
  ·rw[show (i + 1) * 4 + 1=i * 4 + 1 + 4 by omega,List.getElem?_append_right (by simp)];simpa using e2
  ·rw[show (i + 1) * 4 + 2=i * 4 + 2 + 4 by omega,List.getElem?_append_right (by simp)];simpa using e3
  ·rw[show (i + 1) * 4 + 3=i * 4 + 3 + 4 by omega,List.getElem?_append_right (by simp)];simpa using e4
theorem z1b.at_ {w:World} {K:Nat→Prop} {v:Value} {l:List Mk.Tok} (h:z1b w K v l):∃ ao cap,v=.slice ao l.length cap∧l.length≤maxLen∧∀ (k:Nat) (t:Mk.Tok),l[k]? = some t→∃ g o aot capt,ao=some ⟨g,o,none⟩∧K g∧AtsV w K (.slice aot t.ats.length capt) t.ats∧w.cell? ⟨g,o + k * 4,none⟩=some (.int .i64 t.kind)∧w.cell? ⟨g,o + k * 4 + 1,none⟩=some (.string (st t.name))∧w.cell? ⟨g,o + k * 4 + 2,none⟩=some (.slice aot t.ats.length capt)∧w.cell? ⟨g,o + k * 4 + 3,none⟩=some (.string (st t.text)):=by
 obtain⟨ao,cap,xs,h1,h2,h3,h4⟩:=h;refine⟨ao,cap,h1,h4,fun k t hk=>?_⟩;obtain⟨va,hva,x0,x1,x2,x3⟩:=h3.at_ k t hk
 obtain⟨aot,capt,hv1,_⟩:=id hva;subst hv1
 rcases h2 with h2 | ⟨g,o,e1,e2,e3,_⟩
 ·rw[h2] at x0;simp at x0
 ·exact⟨g,o,aot,capt,e1,e2,hva,e3 _ _ x0,e3 _ _ x1,e3 _ _ x2,e3 _ _ x3⟩
theorem bld_new (w:World):BldS ((w.alloc (.cells #[.slice none 0 0] 22)).alloc (.cells #[.slice (some ⟨w.heap.size,0,none⟩) 1 1,.slice none 0 0] 92)) w.heap.size (w.heap.size + 1) (fun _=>False) ⟨.nil,[]⟩:=by
 have hb:Blk (w.alloc (.cells #[.slice none 0 0] 22)) w.heap.size 22 #[.slice none 0 0]:=Blk.new w _ _;have hb2:=Blk.alloc hb (.cells #[.slice (some ⟨w.heap.size,0,none⟩) 1 1,.slice none 0 0] 92);have hp:=Blk.new (w.alloc (.cells #[.slice none 0 0] 22)) 92 #[.slice (some ⟨w.heap.size,0,none⟩) 1 1,.slice none 0 0];rw[World.size_alloc] at hp;refine⟨.slice (some ⟨w.heap.size,0,none⟩) 1 1,.slice none 0 0,[.slice none 0 0],[],hp,Nat.le_succ _,id,(fun _ (q:False)=>q.elim),⟨rfl,.inr ⟨w.heap.size,1,_,rfl,Lr,hb2,Lr,by decide,rfl,rfl⟩⟩,World.ownsRow_nil _ _ _ _,rfl,?_,?_,?_,?_⟩
 ·intro i f v h1 h2
  cases i with
  | zero =>
   injection h1 with h1;injection h2 with h2;subst h1;subst h2;exact⟨[],⟨World.ownsRow_nil _ _ _ _,rfl,(fun g e=>by cases e),(fun b (q:False)=>q.elim)⟩⟩
  | succ i=>simp[Mk.Bld.fos] at h1
 ·intro g e
  injection e with e;subst e;exact⟨Nat.ne_of_lt (Nat.lt_succ_self _),id⟩
 ·intro g e;cases e
 ·intro i v g h1 h2
  cases i with
  | zero=>injection h1 with h1;subst h1;cases h2
  | succ i=>simp at h1
theorem tr_Of (l:List Mk.Tok) (v:Value) (K:Nat→Prop) (w:World) (hv:z1b w K v l) (hK:∀ b,K b→b < w.heap.size) (hl:Mk.Bld.tokB l≤549755813000) :
  Calls prog 41 #[v] w fun e w'=>∃ v',e=.returned v'∧FoV w' (fun g=>w.heap.size≤g∧g < w'.heap.size) v' (Mk.build l)∧Below w.heap.size w w':=by
 obtain⟨ao,cap,hv1,hlm,hat⟩:=hv.at_
 subst hv1;have hll:=Mk.Bld.q9y l;have HAT:=Ld hat
 have HK:=Ld hK;have hal:=(((Below.refl w.heap.size w).alloc (Lr) (.cells #[.slice none 0 0] 22)).alloc (by simp) (.cells #[.slice (some ⟨w.heap.size,0,none⟩) 1 1,.slice none 0 0] 92));have HB0:=Ld (bld_new w);have HAL:=Ld hal;have hd0:Mk.Bld.bulk ⟨.nil,[]⟩=0:=rfl;clear hv hat hK hal;go_enter func41,ntmps41;go_wp2_with fail
 go_loopw [11] (fun i wr=>∃ (k:Nat) (c:Mk.Bld),k≤l.length∧i=.int .i64 k∧c.ops.length≤8∧Hid (c.bulk + Mk.Bld.tokB (l.drop k)≤Mk.Bld.tokB l)∧Hid ((l.drop k).foldl Mk.Bld.token c=l.foldl Mk.Bld.token ⟨.nil,[]⟩)∧Hid (∃ Kc,BldS wr w.heap.size (w.heap.size + 1) Kc c)∧Hid (Below w.heap.size w wr)) (fun i _=>l.length - (intOf i).toNat)
 case atStart=>exact⟨0,⟨.nil,[]⟩,Nat.zero_le _,rfl,Nat.zero_le _,by show _≤_;rw[hd0,List.drop_zero];omega,rfl,⟨_,HB0.out⟩,HAL.out⟩
 case round =>
  obtain⟨k,c,hk,rfl,hc8,HBK,HFO,HB,HBL⟩:=hrel
  by_cases hlt:k < l.length
  ·obtain⟨t,hkt⟩:∃ t,l[k]? = some t:=⟨_,List.getElem?_eq_getElem hlt⟩
   obtain⟨g,o,aot,capt,hao,hKg,hva,y0,y1,y2,y3⟩:=HAT.out k t hkt;subst hao;have hgl:=HK.out g hKg;rw[← HBL.out.cell (p:=⟨g,_,none⟩) hgl] at y0 y1 y2 y3;have hdr:l.drop k=t :: l.drop (k + 1):=by
    rw[List.drop_eq_getElem_cons hlt];rw[List.getElem?_eq_getElem hlt] at hkt;injection hkt with hkt;rw[hkt]
   have hbk:c.bulk + (2 + t.name.length + t.text.length + Mk.Fo.atB t.ats + Mk.Bld.tokB (l.drop (k + 1)))≤Mk.Bld.tokB l:=by have:=HBK.out;rwa [hdr,Mk.Bld.z5y] at this
   have hfo:(l.drop (k + 1)).foldl Mk.Bld.token (c.token t)=l.foldl Mk.Bld.token ⟨.nil,[]⟩:=by have:=HFO.out;rwa [hdr] at this
   have hcl:=c.j6s t hc8;have hcb:=c.j2v t;obtain⟨Kc,hB⟩:=HB.out;have hal:=(Below.refl wr.heap.size wr).alloc (Lr) (.cells #[.int .i64 t.kind,.string (st t.name),.slice aot t.ats.length capt,.string (st t.text)] 52);have hBL1:=HBL.out.trans (hal.mono HBL.out.size);have htk:=tr_token c (hB.below hal) (by omega) hc8 t (.slice aot t.ats.length capt) K (hva.frame (fun b q=>⟨q,hBL1.block b (HK.out b q)⟩)) HK.out (by omega);have HTK:=Ld htk;have HBL1:=Ld hBL1;have PB:=Ld (Blk.new wr 52 #[.int .i64 t.kind,.string (st t.name),.slice aot t.ats.length capt,.string (st t.text)]);have HFO2:=Ld hfo;clear htk hBL1 hal hB HB hdr hkt hva hfo HBL HFO HBK;go_upto_region 5 with fail;generalize (wr.alloc (.cells #[.int .i64 t.kind,.string (st t.name),.slice aot t.ats.length capt,.string (st t.text)] 52))=w1 at HTK HBL1 PB ⊢;have z0:w1.cell? ⟨wr.heap.size,0,none⟩=some (.int .i64 t.kind):=Blk.cell PB.out 0;have z1:w1.cell? ⟨wr.heap.size,1,none⟩=some (.string (st t.name)):=Blk.cell PB.out 1;have z2:w1.cell? ⟨wr.heap.size,2,none⟩=some (.slice aot t.ats.length capt):=Blk.cell PB.out 2;have z3:w1.cell? ⟨wr.heap.size,3,none⟩=some (.string (st t.text)):=Blk.cell PB.out 3;clear y0 y1 y2 y3;unfold tokV at HTK;go_wp2_with fail;refine HTK.out.mono ?_;rintro e w2 ⟨rfl,K2,hK2,hb2,ha2⟩;have HB2:Hid (∃ Kc,BldS w2 w.heap.size (w.heap.size + 1) Kc (c.token t)):=⟨K2,hb2⟩;have HBL2:Hid (Below w.heap.size w w2):=HBL1.out.trans (ha2.below HBL1.out.size (fun b q1 q2=>by have:=q2.1;omega));clear hb2 ha2 HTK z0 z1 z2 z3 hK2;go_wp2_with fail;go_roundw
   case rel=>exact⟨k + 1,c.token t,by omega,by go_num,hcl,by show _≤_;omega,HFO2.out,HB2.out,HBL2.out⟩
   case measure=>simp[intOf];omega
  ·have hke:k=l.length:=by omega
   subst hke;have hce:c=l.foldl Mk.Bld.token ⟨.nil,[]⟩:=by have:=HFO.out;rwa [List.drop_length] at this
   have hbu:Mk.build l=(c.close 0).root:=by rw[hce];rfl
   obtain⟨Kc,hB⟩:=HB.out;have hbk:=HBK.out;have HCL:=Ld (q54 c hB 0 (by omega) (by omega) (by omega));have HBU:=Ld hbu;clear hce hbu hB HB HBK hbk;go_wp2_with fail;refine HCL.out.mono ?_;rintro e w2 ⟨rfl,K2,hK2,⟨vn,vo,ns,xo,hb2⟩,ha2⟩;have hBL2:=HBL.out.trans (ha2.below HBL.out.size (fun b q1 q2=>by have:=q2.1;omega));have hz:=(c.close 0).fos_zero (c.j0v);rw[hz] at hb2;obtain⟨gn,capn,v1,xs,hvn,hcn,hns,hof,hfr⟩:=(show BldV w2 _ _ K2 ([]++[(c.close 0).root]) _ vn vo ns xo from hb2).last;subst hvn;obtain⟨ao1,cap1,hu⟩:=Y1 hof.own;subst hu;have c0:w2.cell? ⟨w.heap.size + 1,0,none⟩=some (.slice (some ⟨gn,0,none⟩) 1 capn):=Blk.cell hb2.blk 0;have hcn:w2.cell? ⟨gn,0,none⟩=some (.slice ao1 (c.close 0).root.len cap1):=hcn;have HE:Hid (FoV w2 (fun g=>w.heap.size≤g∧g < w2.heap.size) (.slice ao1 (c.close 0).root.len cap1) (Mk.build l)):=by
    show FoV _ _ _ _;rw[HBU.out];exact hof.foV (fun b q=>hb2.kle b q) (fun g e=>hof.own.lt g e)
   have HBL2:=Ld hBL2;clear hb2 ha2 hK2 hz hns hof hfr HCL hBL2;go_wp2_with fail;go_ret;exact⟨_,rfl,HE.out,HBL2.out⟩
end Go.Proofs.YtagleefekmdldaaGreatDoor
namespace Go.Proofs.YtagleefekmdldaaGreatDoor
open Go.RowKit
structure Sp (K:Nat→Prop) (w w':World):Prop where
 ap:Ap K w w'
 sz:w'.heap.size=w.heap.size
 sl:∀ p a n c,w.cell? p=some (.slice a n c)→w'.cell? p=some (.slice a n c)
 tx:∀ p s,w.cell? p=some (.string s)→∃ s',w'.cell? p=some (.string s')
 nt:∀ p n,w.cell? p=some (.int .i64 n)→∃ n',w'.cell? p=some (.int .i64 n')
 fz:∀ p,w'.frozen? p=w.frozen? p
theorem Sp.refl (K:Nat→Prop) (w:World):Sp K w w:=⟨Ap.refl _ _,rfl,fun _ _ _ _ h=>h,fun _ s h=>⟨s,h⟩,fun _ n h=>⟨n,h⟩,fun _=>rfl⟩
theorem Sp.trans {K:Nat→Prop} {a b c:World} (h:Sp K a b) (k:Sp K b c):Sp K a c :=
 ⟨h.ap.trans k.ap,k.sz.trans h.sz,fun p x n c q=>k.sl p x n c (h.sl p x n c q),fun p s q=>by obtain⟨s',q'⟩:=h.tx p s q;exact k.tx p s' q',fun p n q=>by obtain⟨n',q'⟩:=h.nt p n q;exact k.nt p n' q',fun p=>(k.fz p).trans (h.fz p)⟩
theorem Sp.sub {K K':Nat→Prop} {a b:World} (h:Sp K a b) (hs:∀ k,K k→K' k):Sp K' a b:=⟨h.ap.sub hs,h.sz,h.sl,h.tx,h.nt,h.fz⟩
theorem z6b (w:World) (g i:Nat) (x:Value) (p:Addr):(w.setCell ⟨g,i,none⟩ x).cell? p=w.cell? p∨(p=⟨g,i,none⟩∧((w.setCell ⟨g,i,none⟩ x).cell? p=some x∨w.cell? p=none)):=by
 by_cases hg:p.block=g
 ·obtain⟨b,o,s⟩:=p
  simp only at hg;subst hg;unfold World.cell? World.setCell;simp only [Array.getElem?_modify,if_true]
  cases hb:w.heap[b]? with
  | none=>left;rfl
  | some ob =>
   cases ob with
   | cells c e f =>
    simp only [Option.map_some]
    cases s with
    | some _=>left;rfl
    | none =>
     by_cases ho:o=i
     ·subst ho
      right
      refine⟨rfl,?_⟩
      by_cases hlt:o < c.size
      ·left;simp[hlt]
      ·right;simp;omega
     ·left
      have hn:i ≠ o:=fun q=>ho q.symm
      simp[Array.getElem?_setIfInBounds_ne hn]
   | _=>left;rfl
 ·left
  exact World.cell?_setCell_far w ⟨g,i,none⟩ p x (fun q=>hg q.symm)
theorem q31 (w:World) (g i:Nat) (x:Value) (p:Addr):(w.setCell ⟨g,i,none⟩ x).frozen? p=w.frozen? p:=by
 unfold World.frozen? World.setCell;simp only [Array.getElem?_modify]
 by_cases hg:g=p.block
 ·rw[if_pos hg]
  cases hb:w.heap[p.block]? with
  | none=>rfl
  | some ob=>cases ob <;> rfl
 ·rw[if_neg hg]
theorem Sp.text {K:Nat→Prop} {w:World} {g i:Nat} {s:ByteArray} (hK:K g) (hc:w.cell? ⟨g,i,none⟩=some (.string s)) (x:ByteArray):Sp K w (w.setCell ⟨g,i,none⟩ (.string x)):=by
 refine⟨(Ap.refl K w).setCell (p:=⟨g,i,none⟩) hK _,by simp[World.setCell],fun p a n c h=>?_,fun p t h=>?_,fun p n h=>?_,fun p=>q31 w g i _ p⟩
 ·rcases z6b w g i (.string x) p with q | ⟨rfl,_⟩
  ·exact q.trans h
  ·rw[hc] at h;cases h
 ·rcases z6b w g i (.string x) p with q | ⟨rfl,q | q⟩
  ·exact⟨t,q.trans h⟩
  ·exact⟨x,q⟩
  ·rw[q] at h;cases h
 ·rcases z6b w g i (.string x) p with q | ⟨rfl,_⟩
  ·exact⟨n,q.trans h⟩
  ·rw[hc] at h;cases h
theorem Sp.num {K:Nat→Prop} {w:World} {g i:Nat} {m:Int} (hK:K g) (hc:w.cell? ⟨g,i,none⟩=some (.int .i64 m)) (x:Int):Sp K w (w.setCell ⟨g,i,none⟩ (.int .i64 x)):=by
 refine⟨(Ap.refl K w).setCell (p:=⟨g,i,none⟩) hK _,by simp[World.setCell],fun p a n c h=>?_,fun p t h=>?_,fun p n h=>?_,fun p=>q31 w g i _ p⟩
 ·rcases z6b w g i (.int .i64 x) p with q | ⟨rfl,_⟩
  ·exact q.trans h
  ·rw[hc] at h;cases h
 ·rcases z6b w g i (.int .i64 x) p with q | ⟨rfl,_⟩
  ·exact⟨t,q.trans h⟩
  ·rw[hc] at h;cases h
 ·rcases z6b w g i (.int .i64 x) p with q | ⟨rfl,q | q⟩
  ·exact⟨n,q.trans h⟩
  ·exact⟨x,q⟩
  ·rw[q] at h;cases h
theorem st_of (s:ByteArray) : .string s=Value.string (st s.data.toList):=by
 congr 1
theorem Sp.ats {K K0:Nat→Prop} {w w':World} (h:Sp K0 w w') {v:Value} {l:List Mk.At} (hv:AtsV w K v l):∃ l',l'.length=l.length∧AtsV w' K v l':=by
 obtain⟨ao,cap,rfl,hr,h3,h4⟩:=hv
 rcases hr with hr | ⟨g,o,rfl,hg,hc,hf⟩
 ·have hl:l=[]:=List.eq_nil_of_length_eq_zero (by have:=z04 l;rw[hr] at this;simp at this;omega)
  subst hl;exact⟨[],rfl,ao,cap,rfl,.inl rfl,h3,h4⟩
 ·have key:∀ n,n≤l.length→∃ l':List Mk.At,l'.length=n∧∀ i u,(Z5 l')[i]? = some u→w'.cell? ⟨g,o + i,none⟩=some u:=by
   intro n
   induction n with
   | zero=>intro _;exact⟨[],rfl,fun i u q=>by simp[Z5] at q⟩
   | succ n ih =>
    intro hn;obtain⟨l',e1,e2⟩:=ih (by omega);obtain⟨c1,c2⟩:=z7a l n (by omega);obtain⟨s1,d1⟩:=h.tx _ _ (hc _ _ c1);obtain⟨s2,d2⟩:=h.tx _ _ (hc _ _ c2);rw[st_of] at d1 d2;refine⟨l'++[⟨s1.data.toList,s2.data.toList⟩],by simp[e1],fun i u q=>?_⟩;have e:Z5 (l'++[⟨s1.data.toList,s2.data.toList⟩])=Z5 l'++[.string (st s1.data.toList),.string (st s2.data.toList)]:=by simp[Z5]
    have ez:=z04 l';rw[e] at q
    by_cases hi:i < (Z5 l').length
    ·rw[List.getElem?_append_left hi] at q
     exact e2 i u q
    ·rw[List.getElem?_append_right (by omega)] at q
     rcases Nat.lt_or_ge i ((Z5 l').length + 2) with hi2 | hi2
     ·rcases (by omega:i=2 * n∨i=2 * n + 1) with rfl | rfl
      ·rw[show 2 * n - (Z5 l').length=0 by omega] at q
       injection q with q;rw[← q];exact d1
      ·rw[show 2 * n + 1 - (Z5 l').length=1 by omega] at q
       injection q with q;rw[← q];exact d2
     ·rw[List.getElem?_eq_none (by simp;omega)] at q;cases q
  obtain⟨l',e1,e2⟩:=key l.length (Lr);refine⟨l',e1,some ⟨g,o,none⟩,cap,by rw[e1],.inr ⟨g,o,rfl,hg,e2,fun i hi=>?_⟩,by omega,by omega⟩;rw[h.fz];exact hf i (by rw[z04] at hi ⊢;omega)
end Go.Proofs.YtagleefekmdldaaGreatDoor
namespace Mk
def Fo.cnt:Fo→Nat
 | .nil=>0
 | .node _ _ _ k r=>1 + k.cnt + r.cnt
end Mk
namespace Go.Proofs.YtagleefekmdldaaGreatDoor
open Go.RowKit
theorem Sp.cells {K K0:Nat→Prop} {w w':World} (h:Sp K0 w w'):∀ (f:Mk.Fo) (xs:List Value) (g o:Nat),Y0 w K f xs→(∀ i v,xs[i]? = some v→w.cell? ⟨g,o + i,none⟩=some v) →
  ∃ f' xs',f'.len=f.len∧f'.cnt=f.cnt∧Y0 w' K f' xs'∧xs'.length=xs.length∧∀ i v,xs'[i]? = some v→w'.cell? ⟨g,o + i,none⟩=some v:=by
 intro f
 induction f with
 | nil =>
  intro xs g o hx hc;have hx':xs=[]:=hx;subst hx';exact⟨.nil,[],rfl,rfl,rfl,rfl,fun i v q=>by simp at q⟩
 | node n a t k r ihk ihr =>
  intro xs g o hx hc;obtain⟨va,ao,cap,zs,ys,rfl,ha,hr,hl,hk,hy⟩:=hx;obtain⟨a',a1,a2⟩:=h.ats ha;obtain⟨k',zs',k1,k2,k3,hr'⟩:∃ k' zs',Mk.Fo.len k'=k.len∧k'.cnt=k.cnt∧Y0 w' K k' zs'∧z1v w' K ao zs':=by
   rcases hr with hz | ⟨g2,o2,rfl,hg2,hc2,hf2⟩
   ·subst hz
    have hkn:k=.nil:=by
     have:=hk.length
     cases k with
     | nil=>rfl
     | node _ _ _ _ _=>simp[Mk.Fo.len] at this
    subst hkn;exact⟨.nil,[],rfl,rfl,rfl,.inl rfl⟩
   ·obtain⟨k',zs',e1,e2,e3,e4,e5⟩:=ihk zs g2 o2 hk hc2
    exact⟨k',zs',e1,e2,e3,.inr ⟨g2,o2,rfl,hg2,e5,fun i hi=>by rw[h.fz];exact hf2 i (by omega)⟩⟩
  obtain⟨r',ys',r1,r2,r3,r4,r5⟩:=ihr ys g (o + 4) hy (fun i v q=>by
   have:=hc (i + 4) v (by rw[List.getElem?_append_right (by simp)];simpa using q);rw[show o + 4 + i=o + (i + 4) by omega];exact this)
  obtain⟨s1,d1⟩:=h.tx _ _ (hc 0 _ rfl);obtain⟨s2,d2⟩:=h.tx _ _ (hc 2 _ rfl);rw[st_of] at d1 d2;obtain⟨aoa,capa,hva,_⟩:=id a2;have d3:w'.cell? ⟨g,o + 1,none⟩=some va:=by
   obtain⟨aoa2,capa2,hva2,_⟩:=id ha;have:=hc 1 va rfl;rw[hva2] at this ⊢;exact h.sl _ _ _ _ this
  have d4:=h.sl _ _ _ _ (hc 3 _ rfl);refine⟨.node s1.data.toList a' s2.data.toList k' r',[.string (Go.Proofs.YtagleefekmdldaaGreatDoor.st s1.data.toList),va,.string (Go.Proofs.YtagleefekmdldaaGreatDoor.st s2.data.toList),.slice ao k'.len cap]++ys',by simp[Mk.Fo.len,r1],by simp[Mk.Fo.cnt,k2,r2],⟨va,ao,cap,zs',ys',rfl,a2,hr',by omega,k3,r3⟩,by simp[r4],?_⟩;intro i v q
  match i,q with
  | 0,q=>injection q with q;rw[← q];exact d1
  | 1,q=>injection q with q;rw[← q];exact d3
  | 2,q=>injection q with q;rw[← q];exact d2
  | 3,q=>injection q with q;rw[← q,k1];exact d4
  | i + 4,q =>
   rw[show o + (i + 4)=o + 4 + i by omega];exact r5 i v (by rw[List.getElem?_append_right (by simp)] at q;simpa using q)
theorem Sp.fo {K K0:Nat→Prop} {w w':World} (h:Sp K0 w w') {v:Value} {f:Mk.Fo} (hv:FoV w K v f):∃ f',f'.len=f.len∧f'.cnt=f.cnt∧FoV w' K v f':=by
 obtain⟨ao,cap,xs,rfl,hr,hc,hl⟩:=hv
 rcases hr with hz | ⟨g,o,rfl,hg,hx,hf⟩
 ·subst hz
  have hfn:f=.nil:=by
   have:=hc.length
   cases f with
   | nil=>rfl
   | node _ _ _ _ _=>simp[Mk.Fo.len] at this
  subst hfn;exact⟨.nil,rfl,rfl,ao,cap,[],rfl,.inl rfl,rfl,hl⟩
 ·obtain⟨f',xs',e1,e2,e3,e4,e5⟩:=h.cells f xs g o hc hx
  exact⟨f',e1,e2,some ⟨g,o,none⟩,cap,xs',by rw[e1],.inr ⟨g,o,rfl,hg,e5,fun i hi=>by rw[h.fz];exact hf i (by omega)⟩,e3,by omega⟩
theorem Sp.tcells {K K0:Nat→Prop} {w w':World} (h:Sp K0 w w'):∀ (l:List Mk.Tok) (xs:List Value) (g o:Nat),z0j w K l xs→(∀ i v,xs[i]? = some v→w.cell? ⟨g,o + i,none⟩=some v) →
  ∃ l' xs',l'.length=l.length∧z0j w' K l' xs'∧xs'.length=xs.length∧∀ i v,xs'[i]? = some v→w'.cell? ⟨g,o + i,none⟩=some v:=by
 intro l
 induction l with
 | nil =>
  intro xs g o hx hc;have hx':xs=[]:=hx;subst hx';exact⟨[],[],rfl,rfl,rfl,fun i v q=>by simp at q⟩
 | cons t r ih =>
  intro xs g o hx hc;obtain⟨va,ys,rfl,ha,hy⟩:=hx;obtain⟨a',a1,a2⟩:=h.ats ha;obtain⟨r',ys',r1,r3,r4,r5⟩:=ih ys g (o + 4) hy (fun i v q=>by
   have:=hc (i + 4) v (by rw[List.getElem?_append_right (by simp)];simpa using q);rw[show o + 4 + i=o + (i + 4) by omega];exact this)
  obtain⟨m,d0⟩:=h.nt _ _ (hc 0 _ rfl);obtain⟨s1,d1⟩:=h.tx _ _ (hc 1 _ rfl);obtain⟨s2,d2⟩:=h.tx _ _ (hc 3 _ rfl);rw[st_of] at d1 d2;have d3:w'.cell? ⟨g,o + 2,none⟩=some va:=by
   obtain⟨aoa2,capa2,hva2,_⟩:=id ha;have:=hc 2 va rfl;rw[hva2] at this ⊢;exact h.sl _ _ _ _ this
  refine⟨⟨m,s1.data.toList,a',s2.data.toList⟩ :: r',[.int .i64 m,.string (Go.Proofs.YtagleefekmdldaaGreatDoor.st s1.data.toList),va,.string (Go.Proofs.YtagleefekmdldaaGreatDoor.st s2.data.toList)]++ys',by simp[r1],⟨va,ys',rfl,a2,r3⟩,by simp[r4],?_⟩;intro i v q
  match i,q with
  | 0,q=>injection q with q;rw[← q];exact d0
  | 1,q=>injection q with q;rw[← q];exact d1
  | 2,q=>injection q with q;rw[← q];exact d3
  | 3,q=>injection q with q;rw[← q];exact d2
  | i + 4,q =>
   rw[show o + (i + 4)=o + 4 + i by omega];exact r5 i v (by rw[List.getElem?_append_right (by simp)] at q;simpa using q)
theorem Sp.toks {K K0:Nat→Prop} {w w':World} (h:Sp K0 w w') {v:Value} {l:List Mk.Tok} (hv:z1b w K v l):∃ l',l'.length=l.length∧z1b w' K v l':=by
 obtain⟨ao,cap,xs,rfl,hr,hc,hl⟩:=hv
 rcases hr with hz | ⟨g,o,rfl,hg,hx,hf⟩
 ·subst hz
  have hfn:l=[]:=List.eq_nil_of_length_eq_zero (by have:=hc.length;simp at this;omega);subst hfn;exact⟨[],rfl,ao,cap,[],rfl,.inl rfl,rfl,hl⟩
 ·obtain⟨l',xs',e1,e3,e4,e5⟩:=h.tcells l xs g o hc hx
  exact⟨l',e1,some ⟨g,o,none⟩,cap,xs',by rw[e1],.inr ⟨g,o,rfl,hg,e5,fun i hi=>by rw[h.fz];exact hf i (by omega)⟩,e3,by omega⟩
theorem FoV.frz {w:World} {K:Nat→Prop} {g o n c:Nat} {f:Mk.Fo} (h:FoV w K (.slice (some ⟨g,o,none⟩) n c) f) (k:Nat) (hk:k < f.len):w.frozen? ⟨g,o + k * 4,none⟩=false:=by
 obtain⟨ao,cap,xs,h1,h2,h3,_⟩:=h;have hl:=h3.length;injection h1 with e1
 rcases h2 with h2 | ⟨g2,o2,e2,_,_,e3⟩
 ·rw[h2] at hl;simp at hl;omega
 ·rw[e2] at e1
  injection e1 with e1;injection e1 with e1 e4;subst e1;subst e4;exact e3 _ (by omega)
theorem AtsV.frz {w:World} {K:Nat→Prop} {g o n c:Nat} {l:List Mk.At} (h:AtsV w K (.slice (some ⟨g,o,none⟩) n c) l) (k:Nat) (hk:k < l.length):w.frozen? ⟨g,o + k * 2,none⟩=false:=by
 obtain⟨ao,cap,h1,h2,h3⟩:=h;have hl:=z04 l;injection h1 with e1
 rcases h2 with h2 | ⟨g2,o2,e2,_,_,e3⟩
 ·rw[h2] at hl;simp at hl;omega
 ·rw[e2] at e1
  injection e1 with e1;injection e1 with e1 e4;subst e1;subst e4;exact e3 _ (by omega)
theorem z1b.frz {w:World} {K:Nat→Prop} {g o n c:Nat} {l:List Mk.Tok} (h:z1b w K (.slice (some ⟨g,o,none⟩) n c) l) (k:Nat) (hk:k < l.length):w.frozen? ⟨g,o + k * 4,none⟩=false:=by
 obtain⟨ao,cap,xs,h1,h2,h3,_⟩:=h;have hl:=h3.length;injection h1 with e1
 rcases h2 with h2 | ⟨g2,o2,e2,_,_,e3⟩
 ·rw[h2] at hl;simp at hl;omega
 ·rw[e2] at e1
  injection e1 with e1;injection e1 with e1 e4;subst e1;subst e4;exact e3 _ (by omega)
end Go.Proofs.YtagleefekmdldaaGreatDoor
