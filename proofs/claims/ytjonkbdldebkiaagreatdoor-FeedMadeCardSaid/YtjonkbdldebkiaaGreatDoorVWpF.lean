/- NOT FINISHED: builds not. Contract of the law's xmlBegun: what must be in any case, is. -/
import Derived.Test.YtjonkbdldebkiaaGreatDoorVWpC
import Derived.Test.YtjonkbdldebkiaaGreatDoorVWpJ
import Derived.Test.YtjonkbdldebkiaaGreatDoorVMkSame
import Derived.Test.YtjonkbdldebkiaaGreatDoorVFdBegun
import Derived.Test.YtjonkbdldebkiaaGreatDoorVWsA
import Derived.Test.YtjonkbdldebkiaaGreatDoorVUrlPlain
import Derived.Test.YtjonkbdldebkiaaGreatDoorVMkTok5
set_option linter.unusedVariables false
set_option linter.unusedSimpArgs false
set_option maxHeartbeats 8000000
set_option maxRecDepth 100000
namespace Fd
open Mk
def docS:Bs:=[60,63,120,109,108,32,118,101,114,115,105,111,110,61,39,49,46,48,39,63,62,60,33,45,45,32,99,32,45,45,62,60,114,32]++[97,32,61,32,39,38,108,116,59,38,97,109,112,59,39,62,120,60,110,58,101,62,60,47,110,58,101,32,62,60,47,114,62,32]
theorem doc_read:xmlM docS=(⟨[114],docA,docK⟩,0):=by
 have e1:(xmlM docS).1.name=[114]:=by decide +kernel
 have e2:(xmlM docS).1.ats=docA:=by decide +kernel
 have e3:(xmlM docS).1.kids=docK:=by decide +kernel
 have e4:(xmlM docS).2=0:=by decide +kernel
 rw[← e1,← e2,← e3,← e4]
theorem doc_bad:(xmlM [60,97,62,60,47,98,62]).2=4:=by decide +kernel
theorem j4m:xmlB (.node [114] docA [] docK .nil)=[60,114,32,97,61,34,38,108,116,59,38,97,109,112,59,34,62,120,60,110,58,101,47,62,60,47,114,62]:=by decide +kernel
theorem doc_ok:q1k [114] docA [] docK 2:=by
 unfold q1k docK;rw[if_neg (by decide)];refine⟨by decide,rfl,by decide +kernel,?_⟩;rw[XOk,if_pos rfl];refine⟨rfl,by decide,rfl,rfl,?_⟩;rw[XOk,if_neg (by decide)];exact⟨by decide,rfl,by omega,rfl,trivial,trivial⟩
end Fd
namespace Go.Proofs.YtjonkbdldebkiaaGreatDoor
open Go.Proofs.Tryz Go.RowKit
theorem q72 (w:World) (hg:Gl w) :
  Calls prog 21 #[] w fun e w'=>e=.returned (.bool true)∧Below w.heap.size w w':=by
 have hst:∀ l:List UInt8,(st l).toList=l:=fun l=>Lib.toList_data _
 have HG:=Ld hg;have HPR:Hid (∀ W va vk,AtsV W (fun b=>w.heap.size≤b∧b < W.heap.size) va Mk.docA→FoV W (fun b=>w.heap.size≤b∧b < W.heap.size) vk Mk.docK→Calls prog 27 #[z05 [114] va [] vk] W fun e w'=>e=.returned (.tuple #[.string (st [60,114,32,97,61,34,38,108,116,59,38,97,109,112,59,34,62,120,60,110,58,101,47,62,60,47,114,62]),.int .i64 0])∧Below W.heap.size W w'):=fun W va vk h1 h2=>by
  have:=q9u [114] Mk.docA [] Mk.docK 2 (by decide) (by decide +kernel) (by decide +kernel) (by decide) Fd.doc_ok va vk _ W h1 h2 (fun b q=>q.2);rw[Fd.j4m] at this;exact this
 go_enter func21,ntmps21;go_wp2_with fail;refine(q8h w).mono ?_;rintro e w1 ⟨va,vk,rfl,h1,h2,hb1⟩;have B1:=Ld hb1;have HP:=Ld (HPR.out w1 va vk h1 h2);clear h1 h2 hb1 HPR;go_wp2_with fail;refine HP.out.mono ?_;rintro e w2 ⟨rfl,hb2⟩;have B2:=Ld (B1.out.trans (hb2.mono B1.out.size));clear HP hb2 B1;have HR1:=Ld (q7l Fd.docS w2 (HG.out.below B2.out HG.out.lt));rw[Fd.doc_read] at HR1;go_wp2_with fail;refine HR1.out.mono ?_;rintro e w3 ⟨hb3,va3,vk3,rfl,h3,h4⟩;have B3:=Ld (B2.out.trans (hb3.mono B2.out.size));obtain⟨aoa,capa,rfl,_⟩:=id h3;obtain⟨aok,capk,xsk,rfl,_⟩:=id h4;have HV3:Hid (AtsV w3 (fun b=>b < w3.heap.size) (.slice aoa Mk.docA.length capa) Mk.docA∧FoV w3 (fun b=>b < w3.heap.size) (.slice aok Mk.docK.len capk) Mk.docK):=by
  constructor
  ·exact h3.frame fun b q=>⟨q.2,rfl⟩
  ·exact h4.frame fun b q=>⟨q.2,rfl⟩
 clear h3 h4 hb3 HR1 B2;unfold z05;go_upto_region 3 with fail;have AL:=(Below.refl w3.heap.size w3).alloc (Lr) (.cells #[.string (st [114]),.slice aoa Mk.docA.length capa,.string (st []),.slice aok Mk.docK.len capk] 53);have NB:=Ld (Blk.new w3 53 #[.string (st [114]),.slice aoa Mk.docA.length capa,.string (st []),.slice aok Mk.docK.len capk]);have B4:=Ld (B3.out.trans (AL.mono B3.out.size));have HV4:Hid (AtsV (w3.alloc (.cells #[.string (st [114]),.slice aoa Mk.docA.length capa,.string (st []),.slice aok Mk.docK.len capk] 53)) (fun b=>b < w3.heap.size) (.slice aoa Mk.docA.length capa) Mk.docA∧FoV (w3.alloc (.cells #[.string (st [114]),.slice aoa Mk.docA.length capa,.string (st []),.slice aok Mk.docK.len capk] 53)) (fun b=>b < w3.heap.size) (.slice aok Mk.docK.len capk) Mk.docK):=⟨HV3.out.1.below (fun b q=>q) AL,HV3.out.2.below (fun b q=>q) AL⟩;obtain⟨X,hX⟩:∃ X,X=w3.heap.size:=⟨_,rfl⟩;rw[← hX] at NB HV4;rw[← hX];generalize w3.alloc (.cells #[.string (st [114]),.slice aoa Mk.docA.length capa,.string (st []),.slice aok Mk.docK.len capk] 53)=w4 at NB B4 HV4 ⊢;clear AL hX HV3 B3;have HR2:=Ld (q7l [60,97,62,60,47,98,62] w4 (HG.out.below B4.out HG.out.lt));rw[Fd.doc_bad] at HR2;generalize Fd.xmlM [60,97,62,60,47,98,62]=bad at HR2;go_wp2_with fail;refine HR2.out.mono ?_;rintro e w5 ⟨hb5,va5,vk5,rfl,h5,h6⟩;obtain⟨aoa5,capa5,rfl,_⟩:=id h5;obtain⟨aok5,capk5,xsk5,rfl,_⟩:=id h6;have B5:=Ld (B4.out.trans (hb5.mono B4.out.size));have NB5:=Ld (Blk.below NB.out hb5 NB.out.lt);have HX:=NB.out.lt;have HV5:Hid (AtsV w5 (fun b=>b < X) (.slice aoa Mk.docA.length capa) Mk.docA∧FoV w5 (fun b=>b < X) (.slice aok Mk.docK.len capk) Mk.docK):=⟨HV4.out.1.below (fun b q=>Nat.lt_trans q HX) hb5,HV4.out.2.below (fun b q=>Nat.lt_trans q HX) hb5⟩;clear h5 h6 HR2 NB HV4 B4;unfold z05;clear hb5;go_upto_region 4 with fail;have AL:=(Below.refl w5.heap.size w5).alloc (Lr) (.cells #[.string (st bad.1.name),.slice aoa5 bad.1.ats.length capa5,.string (st []),.slice aok5 bad.1.kids.len capk5] 53);have B6:=Ld (B5.out.trans (AL.mono B5.out.size));have NB6:=Ld (Blk.alloc NB5.out (.cells #[.string (st bad.1.name),.slice aoa5 bad.1.ats.length capa5,.string (st []),.slice aok5 bad.1.kids.len capk5] 53));have HX5:=NB5.out.lt;have HV6:Hid (AtsV (w5.alloc (.cells #[.string (st bad.1.name),.slice aoa5 bad.1.ats.length capa5,.string (st []),.slice aok5 bad.1.kids.len capk5] 53)) (fun b=>b < X) (.slice aoa Mk.docA.length capa) Mk.docA∧FoV (w5.alloc (.cells #[.string (st bad.1.name),.slice aoa5 bad.1.ats.length capa5,.string (st []),.slice aok5 bad.1.kids.len capk5] 53)) (fun b=>b < X) (.slice aok Mk.docK.len capk) Mk.docK):=⟨HV5.out.1.below (fun b q=>Nat.lt_trans q HX5) AL,HV5.out.2.below (fun b q=>Nat.lt_trans q HX5) AL⟩;generalize w5.alloc (.cells #[.string (st bad.1.name),.slice aoa5 bad.1.ats.length capa5,.string (st []),.slice aok5 bad.1.kids.len capk5] 53)=w6 at B6 NB6 HV6 ⊢;clear AL B5 NB5 HV5 HX5;have HSW:Hid (∀ W,Below w6.heap.size w6.drew W→(W.cell? ⟨X,0,none⟩=some (.string (st [114]))∧W.cell? ⟨X,1,none⟩=some (.slice aoa Mk.docA.length capa)∧W.cell? ⟨X,2,none⟩=some (.string (st []))∧W.cell? ⟨X,3,none⟩=some (.slice aok Mk.docK.len capk))):=fun W hW=>⟨Blk.cell (Blk.below (Blk.drew NB6.out) hW NB6.out.lt) 0,Blk.cell (Blk.below (Blk.drew NB6.out) hW NB6.out.lt) 1,Blk.cell (Blk.below (Blk.drew NB6.out) hW NB6.out.lt) 2,Blk.cell (Blk.below (Blk.drew NB6.out) hW NB6.out.lt) 3⟩
 have HCK:Hid (∀ W B va vk,AtsV W (fun b=>B≤b∧b < W.heap.size) va Mk.docA→FoV W (fun b=>B≤b∧b < W.heap.size) vk Mk.docK→Calls prog 58 #[z05 [114] va [] vk] W fun e w'=>e=.returned (.int .i64 0)∧Below W.heap.size W w'):=fun W B va vk h1 h2=>q9r [114] Mk.docA [] Mk.docK 2 (by decide) (by decide +kernel) (by decide +kernel) (by decide) Fd.doc_ok va vk _ W h1 h2 (fun b q=>q.2)
 have HSN:Hid (∀ w8 w9 va9 ao9 cap9,Below w6.drew.heap.size w6.drew w8→Below (w8.alloc (.cells #[.string (st [114]),.slice aoa Mk.docA.length capa,.string (st []),.slice aok Mk.docK.len capk] 53)).heap.size (w8.alloc (.cells #[.string (st [114]),.slice aoa Mk.docA.length capa,.string (st []),.slice aok Mk.docK.len capk] 53)) w9→AtsV w9 (fun b=>(w8.alloc (.cells #[.string (st [114]),.slice aoa Mk.docA.length capa,.string (st []),.slice aok Mk.docK.len capk] 53)).heap.size≤b∧b < w9.heap.size) va9 Mk.docA→FoV w9 (fun b=>(w8.alloc (.cells #[.string (st [114]),.slice aoa Mk.docA.length capa,.string (st []),.slice aok Mk.docK.len capk] 53)).heap.size≤b∧b < w9.heap.size) (.slice ao9 Mk.docK.len cap9) Mk.docK→Calls prog 54 #[.slice (some ⟨w8.heap.size,0,none⟩) 1 1,.slice (some ⟨w9.heap.size,0,none⟩) 1 1] (w9.alloc (.cells #[.string (st [114]),va9,.string (st []),.slice ao9 Mk.docK.len cap9] 53)) fun e w'=>e=.returned (.bool true)∧Below w6.drew.heap.size w6.drew w'):=by
  intro w8 w9 va9 ao9 cap9 hb8 hb9 h9a h9k;have hX:X < w6.drew.heap.size:=NB6.out.lt;have hX8:X < w8.heap.size:=Nat.lt_of_lt_of_le hX hb8.size;have al8:=(Below.refl w8.heap.size w8).alloc (Lr) (.cells #[.string (st [114]),.slice aoa Mk.docA.length capa,.string (st []),.slice aok Mk.docK.len capk] 53);have al9:=(Below.refl w9.heap.size w9).alloc (Lr) (.cells #[.string (st [114]),va9,.string (st []),.slice ao9 Mk.docK.len cap9] 53);have b89:=al8.trans (hb9.mono al8.size);have b8a:=b89.trans (al9.mono b89.size);have h8a:=(HV6.out.1.frame (w':=w6.drew) (K':=fun b=>b < X) (fun b q=>⟨q,rfl⟩));have h8k:=(HV6.out.2.frame (w':=w6.drew) (K':=fun b=>b < X) (fun b q=>⟨q,rfl⟩));have h8a2:=(h8a.below (fun b q=>Nat.lt_trans q hX) hb8).below (fun b q=>Nat.lt_trans q hX8) b8a;have h8k2:=(h8k.below (fun b q=>Nat.lt_trans q hX) hb8).below (fun b q=>Nat.lt_trans q hX8) b8a;have N8:=Blk.new w8 53 #[.string (st [114]),.slice aoa Mk.docA.length capa,.string (st []),.slice aok Mk.docK.len capk];have N8b:=Blk.alloc (Blk.below N8 hb9 N8.lt) (.cells #[.string (st [114]),va9,.string (st []),.slice ao9 Mk.docK.len cap9] 53);have N9:=Blk.new w9 53 #[.string (st [114]),va9,.string (st []),.slice ao9 Mk.docK.len cap9];have F8:=FoV.one (K:=fun b=>b≤w8.heap.size) (t:=[]) N8b (Lr) (h8a2.frame fun b q=>⟨Nat.le_of_lt (Nat.lt_trans q hX8),rfl⟩) (h8k2.frame fun b q=>⟨Nat.le_of_lt (Nat.lt_trans q hX8),rfl⟩) 1;have F9:=FoV.one (K:=fun b=>b≤w9.heap.size) (t:=[]) N9 (Lr) ((h9a.below (fun b q=>q.2) al9).frame fun b q=>⟨Nat.le_of_lt q.2,rfl⟩) ((h9k.below (fun b q=>q.2) al9).frame fun b q=>⟨Nat.le_of_lt q.2,rfl⟩) 1;have t1:=hb8.alloc hb8.size (.cells #[.string (st [114]),.slice aoa Mk.docA.length capa,.string (st []),.slice aok Mk.docK.len capk] 53);have t2:=t1.trans (hb9.mono t1.size);have t3:=t2.alloc t2.size (.cells #[.string (st [114]),va9,.string (st []),.slice ao9 Mk.docK.len cap9] 53);refine Calls.mono (z2q _ _ (Nat.lt_succ_self _) (by decide) _ _ _ _ _ F8 F9 (fun b q=>Nat.lt_of_le_of_lt q N8b.lt) (fun b q=>Nat.lt_of_le_of_lt q N9.lt)) ?_;rintro e w' ⟨rfl,hb⟩;exact⟨rfl,t3.trans (hb.mono t3.size)⟩
 have HDOC2:Hid (∀ w8 o,Below w6.drew.heap.size w6.drew w8→Calls prog 56 #[] (w8.alloc o) fun e w9=>∃ va9 ao9 cap9,e=.returned (.agg #[.string (st [114]),va9,.string (st []),.slice ao9 Mk.docK.len cap9])∧AtsV w9 (fun b=>(w8.alloc o).heap.size≤b∧b < w9.heap.size) va9 Mk.docA∧FoV w9 (fun b=>(w8.alloc o).heap.size≤b∧b < w9.heap.size) (.slice ao9 Mk.docK.len cap9) Mk.docK∧Below (w8.alloc o).heap.size (w8.alloc o) w9∧Below w6.drew.heap.size w6.drew w9):=by
  intro w8 o hb8;have hb8c:=hb8.alloc hb8.size o;refine(q8h _).mono ?_;rintro e w9 ⟨va9,vk9,rfl,h9a,h9k,hb9a⟩;obtain⟨ao9,cap9,xs9,rfl,_⟩:=id h9k;exact⟨va9,ao9,cap9,rfl,h9a,h9k,hb9a,hb8c.trans (hb9a.mono hb8c.size)⟩
 have HDOC3:Hid (∀ w8,Below w6.drew.heap.size w6.drew w8→Calls prog 56 #[] w8 fun e w9=>∃ va9 ao9 cap9,e=.returned (.agg #[.string (st [114]),va9,.string (st []),.slice ao9 Mk.docK.len cap9])∧AtsV w9 (fun b=>w8.heap.size≤b∧b < w9.heap.size) va9 Mk.docA∧FoV w9 (fun b=>w8.heap.size≤b∧b < w9.heap.size) (.slice ao9 Mk.docK.len cap9) Mk.docK∧Below w8.heap.size w8 w9∧Below w6.drew.heap.size w6.drew w9):=by
  intro w8 hb8;have hb8c:=hb8;refine(q8h _).mono ?_;rintro e w9 ⟨va9,vk9,rfl,h9a,h9k,hb9a⟩;obtain⟨ao9,cap9,xs9,rfl,_⟩:=id h9k;exact⟨va9,ao9,cap9,rfl,h9a,h9k,hb9a,hb8c.trans (hb9a.mono hb8c.size)⟩
 have HSN2:Hid (∀ w8 w9 va9 ao9 cap9,Below w6.drew.heap.size w6.drew w8→Below w8.heap.size w8 w9→AtsV w9 (fun b=>w8.heap.size≤b∧b < w9.heap.size) va9 Mk.docA→FoV w9 (fun b=>w8.heap.size≤b∧b < w9.heap.size) (.slice ao9 Mk.docK.len cap9) Mk.docK→Calls prog 54 #[.slice (some ⟨w9.heap.size,0,none⟩) 1 1,.slice (some ⟨w9.heap.size + 1,0,none⟩) 1 1] ((w9.alloc (.cells #[.string (st [114]),.slice aoa Mk.docA.length capa,.string (st []),.slice aok Mk.docK.len capk] 53)).alloc (.cells #[.string (st [114]),va9,.string (st []),.slice ao9 Mk.docK.len cap9] 53)) fun e w'=>e=.returned (.bool true)∧Below w6.drew.heap.size w6.drew w'):=by
  intro w8 w9 va9 ao9 cap9 hb8 hb9 h9a h9k;have hsz9:(w9.alloc (.cells #[.string (st [114]),.slice aoa Mk.docA.length capa,.string (st []),.slice aok Mk.docK.len capk] 53)).heap.size=w9.heap.size + 1:=by simp
  rw[← hsz9];have hX:X < w6.drew.heap.size:=NB6.out.lt;have hb9t:=hb8.trans (hb9.mono hb8.size);have hX9:X < w9.heap.size:=Nat.lt_of_lt_of_le hX hb9t.size;have al1:=(Below.refl w9.heap.size w9).alloc (Lr) (.cells #[.string (st [114]),.slice aoa Mk.docA.length capa,.string (st []),.slice aok Mk.docK.len capk] 53);have al2:=(Below.refl (w9.alloc (.cells #[.string (st [114]),.slice aoa Mk.docA.length capa,.string (st []),.slice aok Mk.docK.len capk] 53)).heap.size (w9.alloc (.cells #[.string (st [114]),.slice aoa Mk.docA.length capa,.string (st []),.slice aok Mk.docK.len capk] 53))).alloc (Lr) (.cells #[.string (st [114]),va9,.string (st []),.slice ao9 Mk.docK.len cap9] 53);have al:=al1.trans (al2.mono al1.size);have h8a:=(HV6.out.1.frame (w':=w6.drew) (K':=fun b=>b < X) (fun b q=>⟨q,rfl⟩));have h8k:=(HV6.out.2.frame (w':=w6.drew) (K':=fun b=>b < X) (fun b q=>⟨q,rfl⟩));have h8a2:=(h8a.below (fun b q=>Nat.lt_trans q hX) hb9t).below (fun b q=>Nat.lt_trans q hX9) al;have h8k2:=(h8k.below (fun b q=>Nat.lt_trans q hX) hb9t).below (fun b q=>Nat.lt_trans q hX9) al;have N8:=Blk.alloc (Blk.new w9 53 #[.string (st [114]),.slice aoa Mk.docA.length capa,.string (st []),.slice aok Mk.docK.len capk]) (.cells #[.string (st [114]),va9,.string (st []),.slice ao9 Mk.docK.len cap9] 53);have N9:=Blk.new (w9.alloc (.cells #[.string (st [114]),.slice aoa Mk.docA.length capa,.string (st []),.slice aok Mk.docK.len capk] 53)) 53 #[.string (st [114]),va9,.string (st []),.slice ao9 Mk.docK.len cap9];have F8:=FoV.one (K:=fun b=>b≤w9.heap.size) (t:=[]) N8 (Lr) (h8a2.frame fun b q=>⟨Nat.le_of_lt (Nat.lt_trans q hX9),rfl⟩) (h8k2.frame fun b q=>⟨Nat.le_of_lt (Nat.lt_trans q hX9),rfl⟩) 1;have F9:=FoV.one (K:=fun b=>b≤(w9.alloc (.cells #[.string (st [114]),.slice aoa Mk.docA.length capa,.string (st []),.slice aok Mk.docK.len capk] 53)).heap.size) (t:=[]) N9 (Lr) ((h9a.below (fun b q=>q.2) al).frame fun b q=>⟨Nat.le_trans (Nat.le_of_lt q.2) al1.size,rfl⟩) ((h9k.below (fun b q=>q.2) al).frame fun b q=>⟨Nat.le_trans (Nat.le_of_lt q.2) al1.size,rfl⟩) 1;have t3:=(hb9t.alloc hb9t.size (.cells #[.string (st [114]),.slice aoa Mk.docA.length capa,.string (st []),.slice aok Mk.docK.len capk] 53)).alloc ((hb9t.alloc hb9t.size (.cells #[.string (st [114]),.slice aoa Mk.docA.length capa,.string (st []),.slice aok Mk.docK.len capk] 53)).size) (.cells #[.string (st [114]),va9,.string (st []),.slice ao9 Mk.docK.len cap9] 53);refine Calls.mono (z2q _ _ (Nat.lt_succ_self _) (by decide) _ _ _ _ _ F8 F9 (fun b q=>Nat.lt_of_le_of_lt q N8.lt) (fun b q=>Nat.lt_of_le_of_lt q N9.lt)) ?_;rintro e w' ⟨rfl,hb⟩;exact⟨rfl,t3.trans (hb.mono t3.size)⟩
 have HSN3:Hid (∀ w8 w9 va9 ao9 cap9,Below w6.drew.heap.size w6.drew w8→Below w8.heap.size w8 w9→AtsV w9 (fun b=>w8.heap.size≤b∧b < w9.heap.size) va9 Mk.docA→FoV w9 (fun b=>w8.heap.size≤b∧b < w9.heap.size) (.slice ao9 Mk.docK.len cap9) Mk.docK→Calls prog 54 #[.slice (some ⟨w9.heap.size + 1,0,none⟩) 1 1,.slice (some ⟨w9.heap.size,0,none⟩) 1 1] ((w9.alloc (.cells #[.string (st [114]),va9,.string (st []),.slice ao9 Mk.docK.len cap9] 53)).alloc (.cells #[.string (st [114]),.slice aoa Mk.docA.length capa,.string (st []),.slice aok Mk.docK.len capk] 53)) fun e w'=>e=.returned (.bool true)∧Below w6.drew.heap.size w6.drew w'):=by
  intro w8 w9 va9 ao9 cap9 hb8 hb9 h9a h9k;have hsz9:(w9.alloc (.cells #[.string (st [114]),va9,.string (st []),.slice ao9 Mk.docK.len cap9] 53)).heap.size=w9.heap.size + 1:=by simp
  rw[← hsz9];have hX:X < w6.drew.heap.size:=NB6.out.lt;have hb9t:=hb8.trans (hb9.mono hb8.size);have hX9:X < w9.heap.size:=Nat.lt_of_lt_of_le hX hb9t.size;have al1:=(Below.refl w9.heap.size w9).alloc (Lr) (.cells #[.string (st [114]),va9,.string (st []),.slice ao9 Mk.docK.len cap9] 53);have al2:=(Below.refl (w9.alloc (.cells #[.string (st [114]),va9,.string (st []),.slice ao9 Mk.docK.len cap9] 53)).heap.size (w9.alloc (.cells #[.string (st [114]),va9,.string (st []),.slice ao9 Mk.docK.len cap9] 53))).alloc (Lr) (.cells #[.string (st [114]),.slice aoa Mk.docA.length capa,.string (st []),.slice aok Mk.docK.len capk] 53);have al:=al1.trans (al2.mono al1.size);have h8a:=(HV6.out.1.frame (w':=w6.drew) (K':=fun b=>b < X) (fun b q=>⟨q,rfl⟩));have h8k:=(HV6.out.2.frame (w':=w6.drew) (K':=fun b=>b < X) (fun b q=>⟨q,rfl⟩));have h8a2:=(h8a.below (fun b q=>Nat.lt_trans q hX) hb9t).below (fun b q=>Nat.lt_trans q hX9) al;have h8k2:=(h8k.below (fun b q=>Nat.lt_trans q hX) hb9t).below (fun b q=>Nat.lt_trans q hX9) al;have N9:=Blk.alloc (Blk.new w9 53 #[.string (st [114]),va9,.string (st []),.slice ao9 Mk.docK.len cap9]) (.cells #[.string (st [114]),.slice aoa Mk.docA.length capa,.string (st []),.slice aok Mk.docK.len capk] 53);have N8:=Blk.new (w9.alloc (.cells #[.string (st [114]),va9,.string (st []),.slice ao9 Mk.docK.len cap9] 53)) 53 #[.string (st [114]),.slice aoa Mk.docA.length capa,.string (st []),.slice aok Mk.docK.len capk];have F8:=FoV.one (K:=fun b=>b≤(w9.alloc (.cells #[.string (st [114]),va9,.string (st []),.slice ao9 Mk.docK.len cap9] 53)).heap.size) (t:=[]) N8 (Lr) (h8a2.frame fun b q=>⟨Nat.le_trans (Nat.le_of_lt (Nat.lt_trans q hX9)) al1.size,rfl⟩) (h8k2.frame fun b q=>⟨Nat.le_trans (Nat.le_of_lt (Nat.lt_trans q hX9)) al1.size,rfl⟩) 1;have F9:=FoV.one (K:=fun b=>b≤w9.heap.size) (t:=[]) N9 (Lr) ((h9a.below (fun b q=>q.2) al).frame fun b q=>⟨Nat.le_of_lt q.2,rfl⟩) ((h9k.below (fun b q=>q.2) al).frame fun b q=>⟨Nat.le_of_lt q.2,rfl⟩) 1;have t3:=(hb9t.alloc hb9t.size (.cells #[.string (st [114]),va9,.string (st []),.slice ao9 Mk.docK.len cap9] 53)).alloc ((hb9t.alloc hb9t.size (.cells #[.string (st [114]),va9,.string (st []),.slice ao9 Mk.docK.len cap9] 53)).size) (.cells #[.string (st [114]),.slice aoa Mk.docA.length capa,.string (st []),.slice aok Mk.docK.len capk] 53);refine Calls.mono (z2q _ _ (Nat.lt_succ_self _) (by decide) _ _ _ _ _ F8 F9 (fun b q=>Nat.lt_of_le_of_lt q N8.lt) (fun b q=>Nat.lt_of_le_of_lt q N9.lt)) ?_;rintro e w' ⟨rfl,hb⟩;exact⟨rfl,t3.trans (hb.mono t3.size)⟩
 go_region_held3 (fun W=>W.cell? ⟨X,0,none⟩=some (.string (st [114]))∧W.cell? ⟨X,1,none⟩=some (.slice aoa Mk.docA.length capa)∧W.cell? ⟨X,2,none⟩=some (.string (st []))∧W.cell? ⟨X,3,none⟩=some (.slice aok Mk.docK.len capk)) (first
  | exact HSW.out _ hb10T
  | exact HSW.out _ hb9
  | exact HSW.out _ (hb9.alloc hb9.size _)
  | exact HSW.out _ ((hb9.alloc hb9.size _).alloc (hb9.alloc hb9.size _).size _)
  | exact HSW.out _ (hb8.alloc hb8.size _)
  | exact HSW.out _ hb8
  | exact HSW.out _ hb7
  | exact HSW.out _ (Below.refl _ _)) (first
  | (go_at_call 58;(with_reducible refine(HCK.out _ _ _ _ h7a h7k).mono ?_);rintro e w8 ⟨rfl,hb8a⟩;have hb8:=hb7.trans (hb8a.mono hb7.size))
  | (go_at_call 56;(with_reducible refine(q8h w6.drew).mono ?_);rintro e w7 ⟨va7,vk7,rfl,h7a,h7k,hb7⟩)
  | (go_at_call 54;(with_reducible refine(HSN.out _ _ _ _ _ hb8 hb9a h9a h9k).mono ?_);rintro e w10 ⟨rfl,hb10T⟩)
  | (go_at_call 56;(with_reducible refine(HDOC2.out _ _ hb8).mono ?_);rintro e w9 ⟨va9,ao9,cap9,rfl,h9a,h9k,hb9a,hb9⟩)
  | (go_at_call 56;(with_reducible refine(HDOC3.out _ hb8).mono ?_);rintro e w9 ⟨va9,ao9,cap9,rfl,h9a,h9k,hb9a,hb9⟩)
  | (go_at_call 54;(with_reducible refine(HSN3.out _ _ _ _ _ hb8 hb9a h9a h9k).mono ?_);rintro e w10 ⟨rfl,hb10T⟩)
  | (go_at_call 54;(with_reducible refine(HSN2.out _ _ _ _ _ hb8 hb9a h9a h9k).mono ?_);rintro e w10 ⟨rfl,hb10T⟩))
 all_goals
  have B10:=Ld (B6.out.drew.trans (hb10T.mono B6.out.size));go_wp2_with fail;go_ret;exact⟨rfl,B10.out⟩
theorem q58 (g:FuncId) (lb:Array Value) (q:Mk.At→Bool) (eg:∀ args w,(callFunc g args).run prog w=.ok (.enter g args) w) (l:List Mk.At) (v:Value) (K:Nat→Prop) (w:World) (hv:AtsV w K v l) (hK:∀ b,K b→b < w.heap.size) (hl:l.length≤33554432) (hq:q5m g lb q l w) :
  Calls prog 178 #[v,.func (.func g) #[] lb] w fun e w'=>Below w.heap.size w w'∧∃ i:Int,e=.returned (.int .i64 i)∧((i = -1∧l.find? q=none)∨∃ (j:Nat) (hj:j < l.length),i=(j:Int)∧l.find? q=some l[j]):=by
 obtain⟨b,o,cap,hKb,hv1,hcl⟩:=hv.at_
 have HQ:=Ld hq;have HC:=Ld hcl;clear hq hcl
 rcases hv1 with hv1 | ⟨ao,hv1,hl0⟩
 ·subst hv1
  go_enter func178,ntmps178;go_wp2_with fail
  go_loopw [8] (fun i wr=>∃ k:Nat,k≤l.length∧i=.int .i64 k∧Hid (l.find? q=(l.drop k).find? q)∧Hid (Below w.heap.size w wr)) (fun i _=>l.length - (intOf i).toNat)
  case atStart=>exact⟨0,Nat.zero_le _,rfl,rfl,Below.refl _ _⟩
  case round =>
   obtain⟨k,hk,rfl,HA,BL⟩:=hrel
   by_cases hlt:k < l.length
   ·have hb:b < w.heap.size:=hK b (hKb (by intro e;subst e;simp at hlt))
    obtain⟨c0,c1⟩:=HC.out k hlt;rw[← BL.out.cell (p:=⟨b,_,none⟩) hb] at c0 c1;have hcall:=HQ.out wr BL.out l[k] (List.getElem_mem _);have HD:Hid (l.find? q=if q l[k] then some l[k] else (l.drop (k + 1)).find? q):=by
     show _=_;rw[HA.out,List.drop_eq_getElem_cons hlt,List.find?_cons]
     cases q l[k] <;> rfl
    generalize q l[k]=bb at hcall HD;unfold atV at hcall;have HCALL:=Ld hcall;clear hcall
    cases bb with
    | true =>
     go_wp2_with fail;refine HCALL.out.mono ?_;rintro e w1 ⟨rfl,hb1⟩;have BL1:=Ld (BL.out.trans (hb1.mono BL.out.size));clear hb1;go_wp2_with fail;go_ret;exact⟨BL1.out,k,rfl,.inr ⟨k,hlt,rfl,by rw[HD.out];rfl⟩⟩
    | false =>
     go_wp2_with fail;refine HCALL.out.mono ?_;rintro e w1 ⟨rfl,hb1⟩;have BL1:=Ld (BL.out.trans (hb1.mono BL.out.size));clear hb1;go_wp2_with fail;go_roundw
     case rel=>exact⟨k + 1,by omega,by go_num,by show _=_;rw[HD.out];rfl,BL1⟩
     case measure=>simp[intOf];omega
   ·have HN:Hid (l.find? q=none):=by show _=_;rw[HA.out,List.drop_of_length_le (by omega)];rfl
    clear HA;go_wp2_with fail;go_ret;exact⟨BL.out,-1,rfl,.inl ⟨rfl,HN.out⟩⟩
 ·subst hl0
  subst hv1;clear HC hK;go_enter func178,ntmps178;go_wp2_with fail
  go_loopw [8] (fun i wr=>i=.int .i64 0∧wr=w) (fun _ _=>0)
  case atStart=>exact⟨rfl,rfl⟩
  case round =>
   obtain⟨rfl,rfl⟩:=hrel;go_wp2_with fail;go_ret;exact⟨Below.refl _ _,-1,rfl,.inl ⟨rfl,rfl⟩⟩
theorem j0s (P:Nat) (nm:List UInt8) (l:List Mk.At) (w:World) (hP:P < w.heap.size) (hc:w.cell? ⟨P,0,none⟩=some (.string (st nm))):q5m 179 #[.pointer (some ⟨P,0,none⟩)] (fun a=>a.n == nm) l w:=by
 intro w1 hb a _;have c0:w1.cell? ⟨P,0,none⟩=some (.string (st nm)):=(hb.cell (p:=⟨P,0,none⟩) hP).trans hc;have hP1:P < w1.heap.size:=Nat.lt_of_lt_of_le hP hb.size;unfold atV;go_enter func179,ntmps179;go_wp2_with fail;go_ret;exact⟨Z8 (by rw[show (st a.n).toList=a.n from Lib.toList_data _,show (st nm).toList=nm from Lib.toList_data _]),(Below.refl _ w1).alloc (Lr) _⟩
theorem eg_value (args:Array Value) (w:World):(callFunc 179 args).run prog w=.ok (.enter 179 args) w:=Z7 func179 (by kernel_rfl) rfl _ _
theorem q9h (n nm:List UInt8) (a:List Mk.At) (t:List UInt8) (va vk:Value) (k:Mk.Fo) (K:Nat→Prop) (w:World) (hva:AtsV w K va a) (hvk:∃ ao cap,vk=.slice ao k.len cap) (hK:∀ b,K b→b < w.heap.size) (hl:a.length≤33554432) :
  Calls prog 121 #[z05 n va t vk,.string (st nm)] w fun e w'=>e=.returned (.tuple #[.string (st ((Fd.valueA a nm).getD [])),.bool (Fd.valueA a nm).isSome])∧Below w.heap.size w w':=by
 have hmf:∀ (fn:Fn) (first cap:Array Value) (w:World),(Instr.makeFunc fn first cap).run prog w=.ok (.func fn first cap) w:=fun _ _ _ _=>rfl
 obtain⟨g,o,cap,hKg,hv1,hcl⟩:=hva.at_
 obtain⟨aok,capk,rfl⟩:=hvk;obtain⟨aoa,capa,hva1,_⟩:=id hva;subst hva1;have hV:Fd.valueA a nm=(a.find? fun x=>x.n == nm).map fun x=>x.v:=rfl
 have HV:=Ld hV;generalize Fd.valueA a nm=out at HV ⊢;have hal1:=(Below.refl w.heap.size w).alloc (Lr) (.cells #[.string (st n),.slice aoa a.length capa,.string (st t),.slice aok k.len capk] 53);have hal2:=hal1.alloc hal1.size (.cells #[.string (st nm)] 9);have AL:=Ld hal2;have NB:=Ld (Blk.alloc (Blk.new w 53 #[.string (st n),.slice aoa a.length capa,.string (st t),.slice aok k.len capk]) (.cells #[.string (st nm)] 9));have SB0:=Blk.new (w.alloc (.cells #[.string (st n),.slice aoa a.length capa,.string (st t),.slice aok k.len capk] 53)) 9 #[.string (st nm)];rw[World.size_alloc] at SB0;have SB:=Ld SB0;have HI:=Ld (q58 179 #[.pointer (some ⟨w.heap.size + 1,0,none⟩)] (fun x=>x.n == nm) eg_value a _ K _ (hva.below hK hal2) (fun b hb=>Nat.lt_of_lt_of_le (hK b hb) hal2.size) hl (j0s (w.heap.size + 1) nm a _ (Blk.lt SB0) (Blk.cell SB0 0)));have HC:=Ld hcl;have HKW:=Ld hK;have HVV:=Ld hv1;clear hal1 hal2 SB0 hva hK hV hcl hv1;unfold z05;go_enter func121,ntmps121;go_upto_region 1 with fail;generalize (w.alloc (.cells #[.string (st n),.slice aoa a.length capa,.string (st t),.slice aok k.len capk] 53)).alloc (.cells #[.string (st nm)] 9)=w1 at AL NB SB HI ⊢;have c1:w1.cell? ⟨w.heap.size,1,none⟩=some (.slice aoa a.length capa):=Blk.cell NB.out 1;have hNl:=Blk.lt NB.out;clear SB;go_wp2_with fail;refine HI.out.mono ?_;rintro e w2 ⟨hb,i,rfl,hi⟩;have B2:=Ld (AL.out.trans (hb.mono AL.out.size));have d1:w2.cell? ⟨w.heap.size,1,none⟩=some (.slice aoa a.length capa):=(hb.cell (p:=⟨w.heap.size,1,none⟩) hNl).trans c1;clear hb HI AL NB c1
 rcases hi with ⟨rfl,h2⟩ | ⟨j,hj,rfl,h2⟩
 ·have HE:Hid (out=none):=by show _=_;rw[HV.out,h2];rfl
  clear h2 HV;go_wp2_with fail;go_ret2;exact⟨by rw[HE.out];rfl,B2.out⟩
 ·have HE:Hid (out=some a[j].v):=by show _=_;rw[HV.out,h2];rfl
  clear h2 HV
  rcases HVV.out with hq | ⟨ao,hq,h0⟩
  ·injection hq with q1 q2 q3
   subst q1;obtain⟨c0,c1⟩:=HC.out j hj;have hg:g < w.heap.size:=HKW.out g (hKg (by intro e;subst e;simp at hj));rw[← B2.out.cell (p:=⟨g,_,none⟩) hg] at c0 c1;have hji:(j:Int) < a.length:=by omega
   have hj0:¬ (j:Int) < 0:=by omega
   have hj1:(0:Int)≤j:=by omega
   clear HC HVV hKg;go_wp2_with fail;go_ret2;exact⟨by rw[HE.out];rfl,B2.out⟩
  ·subst h0
   simp at hj
theorem q4e (args:Array Value) (w:World):(callFunc 69 args).run prog w=.ok (.enter 69 args) w:=Z7 func69 (by kernel_rfl) rfl _ _
theorem eg_child (args:Array Value) (w:World):(callFunc 117 args).run prog w=.ok (.enter 117 args) w:=Z7 func117 (by kernel_rfl) rfl _ _
theorem z8z (f:Mk.Fo) (K:Nat→Prop) (w:World):q3t 69 #[] (fun _=>true) f K w:=by
 intro w1 hb j n a t kk r hd va vk hva hvk;obtain⟨aoa,capa,hva1,_⟩:=id hva;subst hva1;obtain⟨aok,capk,xsk,hvk1,_⟩:=id hvk;subst hvk1;unfold z05;go_enter func69,ntmps69;go_wp2_with fail;go_ret;exact⟨rfl,(Below.refl _ w1).alloc (Lr) _⟩
theorem j0o (g:FuncId) (eg:∀ args w,(callFunc g args).run prog w=.ok (.enter g args) w) (title:List UInt8) (p:Fd.Nd→Bool) (T D:Nat) (f:Mk.Fo) (K:Nat→Prop) (w:World) (hT:T < w.heap.size) (hD:D < w.heap.size) (hTc:w.cell? ⟨T,0,none⟩=some (.string (st title))) (hDc:w.cell? ⟨D,0,none⟩=some (.func (.func g) #[] #[])) (hK:∀ b,K b→b < w.heap.size) (hdo:q3t g #[] p f K w) :
  q3t 117 #[.pointer (some ⟨T,0,none⟩),.pointer (some ⟨D,0,none⟩)] (fun x=>decide (x.name=title) && p x) f K w:=by
 intro w1 hb j n a t kk r hd va vk hva hvk;have hst:∀ l:List UInt8,(st l).toList=l:=fun l=>Lib.toList_data _
 have d0:w1.cell? ⟨D,0,none⟩=some (.func (.func g) #[] #[]):=(hb.cell (p:=⟨D,0,none⟩) hD).trans hDc;have t0:w1.cell? ⟨T,0,none⟩=some (.string (st title)):=(hb.cell (p:=⟨T,0,none⟩) hT).trans hTc;have hT1:T < w1.heap.size:=Nat.lt_of_lt_of_le hT hb.size;have hD1:D < w1.heap.size:=Nat.lt_of_lt_of_le hD hb.size;obtain⟨aoa,capa,hva1,_⟩:=id hva;subst hva1;obtain⟨aok,capk,xsk,hvk1,_⟩:=id hvk;subst hvk1;have hal:=(Below.refl w1.heap.size w1).alloc (Lr) (.cells #[.string (st n),.slice aoa a.length capa,.string (st t),.slice aok kk.len capk] 53);have hb2:=hb.trans (hal.mono hb.size);have hK1:∀ b,K b→b < w1.heap.size:=fun b q=>Nat.lt_of_lt_of_le (hK b q) hb.size
 have hcall:=hdo _ hb2 j n a t kk r hd _ _ (hva.below hK1 hal) (hvk.below hK1 hal);show Calls _ _ _ _ (fun e w'=>e=.returned (.bool (decide (n=title) && p ⟨n,a,t,kk⟩))∧_);generalize p ⟨n,a,t,kk⟩=pb at hcall ⊢;have HC:=Ld hcall;have AL:=Ld hal;have NB:=Ld (Blk.new w1 53 #[.string (st n),.slice aoa a.length capa,.string (st t),.slice aok kk.len capk]);have e0:(w1.alloc (.cells #[.string (st n),.slice aoa a.length capa,.string (st t),.slice aok kk.len capk] 53)).cell? ⟨D,0,none⟩=some (.func (.func g) #[] #[]):=(hal.cell (p:=⟨D,0,none⟩) hD1).trans d0;have e1:(w1.alloc (.cells #[.string (st n),.slice aoa a.length capa,.string (st t),.slice aok kk.len capk] 53)).cell? ⟨T,0,none⟩=some (.string (st title)):=(hal.cell (p:=⟨T,0,none⟩) hT1).trans t0;clear hcall hal hb2 hva hvk hdo hd hb d0 t0 hDc hTc;unfold z05 at HC ⊢
 by_cases hn:n=title
 ·have hnb:(n == title)=true:=by simpa using hn
  have hdn:decide (n=title)=true:=decide_eq_true hn;rw[hdn,Bool.true_and];clear hn hdn;go_enter func117,ntmps117;go_upto_region 1 with fail;generalize w1.alloc (.cells #[.string (st n),.slice aoa a.length capa,.string (st t),.slice aok kk.len capk] 53)=w2 at e0 e1 NB AL HC ⊢;have n0:w2.cell? ⟨w1.heap.size,0,none⟩=some (.string (st n)):=Blk.cell NB.out 0;have n1:w2.cell? ⟨w1.heap.size,1,none⟩=some (.slice aoa a.length capa):=Blk.cell NB.out 1;have n2:w2.cell? ⟨w1.heap.size,2,none⟩=some (.string (st t)):=Blk.cell NB.out 2;have n3:w2.cell? ⟨w1.heap.size,3,none⟩=some (.slice aok kk.len capk):=Blk.cell NB.out 3;go_wp2_with fail;refine HC.out.mono ?_;rintro e w3 ⟨rfl,hb3⟩;have B3:=Ld (AL.out.trans (hb3.mono AL.out.size));clear hb3 e0 e1 n0 n1 n2 n3;go_wp2_with fail;go_ret;exact⟨rfl,B3.out⟩
 ·have hnb:(n == title)=false:=beq_eq_false_iff_ne.2 hn
  have hdn:decide (n=title)=false:=decide_eq_false hn;rw[hdn,Bool.false_and];clear hn hdn HC;go_enter func117,ntmps117;go_upto_region 1 with fail;generalize w1.alloc (.cells #[.string (st n),.slice aoa a.length capa,.string (st t),.slice aok kk.len capk] 53)=w2 at e0 e1 NB AL ⊢;have n0:w2.cell? ⟨w1.heap.size,0,none⟩=some (.string (st n)):=Blk.cell NB.out 0;have n1:w2.cell? ⟨w1.heap.size,1,none⟩=some (.slice aoa a.length capa):=Blk.cell NB.out 1;have n2:w2.cell? ⟨w1.heap.size,2,none⟩=some (.string (st t)):=Blk.cell NB.out 2;have n3:w2.cell? ⟨w1.heap.size,3,none⟩=some (.slice aok kk.len capk):=Blk.cell NB.out 3;go_wp2_with fail;go_ret;exact⟨rfl,AL.out⟩
theorem q3t.up {g:FuncId} {lb:Array Value} {q:Fd.Nd→Bool} {f:Mk.Fo} {K:Nat→Prop} {w w':World} (h:q3t g lb q f K w) (hb:Below w.heap.size w w'):q3t g lb q f K w':=fun w1 h1=>h w1 (hb.trans (h1.mono hb.size))
def NdV (w:World) (K:Nat→Prop) (va vk:Value) (x:Fd.Nd):Prop:=AtsV w K va x.ats∧FoV w K vk x.kids
theorem NdV.none (w:World) (K:Nat→Prop):NdV w K (.slice none 0 0) (.slice none 0 0) Fd.Nd.none:=⟨AtsV.nil _ _,⟨_,0,[],rfl,.inl rfl,rfl,Nat.zero_le _⟩⟩
def childR (title:List UInt8) (p:Fd.Nd→Bool) (k:Mk.Fo):Fd.Nd:=(Fd.z2z title p k).getD Fd.Nd.none
theorem q09 (g:FuncId) (eg:∀ args w,(callFunc g args).run prog w=.ok (.enter g args) w) (n title:List UInt8) (a:List Mk.At) (t:List UInt8) (va vk:Value) (k:Mk.Fo) (p:Fd.Nd→Bool) (K:Nat→Prop) (w:World) (hva:∃ ao cap,va=.slice ao a.length cap) (hvk:FoV w K vk k) (hK:∀ b,K b→b < w.heap.size) (hl:k.bulk≤33554432) (hdo:q3t g #[] p k K w) :
  Calls prog 68 #[z05 n va t vk,.string (st title),.func (.func g) #[] #[]] w fun e w'=>Below w.heap.size w w'∧∃ va' vk',e=.returned (.tuple #[z05 (childR title p k).name va' (childR title p k).text vk',.bool (Fd.z2z title p k).isSome])∧NdV w' K va' vk' (childR title p k):=by
 have hmf:∀ (fn:Fn) (first cap:Array Value) (w:World),(Instr.makeFunc fn first cap).run prog w=.ok (.func fn first cap) w:=fun _ _ _ _=>rfl
 obtain⟨g0,o,cap,hv1,hlen,hat⟩:=hvk.at_
 obtain⟨aoa,capa,rfl⟩:=hva;obtain⟨aok,capk,xsk,hvk1,_⟩:=id hvk;subst hvk1;have hX:=Fd.q5t title p k;have HX:=Ld hX;have hR:childR title p k=(Fd.z2z title p k).getD Fd.Nd.none:=rfl;have HR:=Ld hR;generalize childR title p k=out at HR ⊢;generalize Fd.z2z title p k=opt at HX HR ⊢;have b0:=Blk.new w 53 #[.string (st n),.slice aoa a.length capa,.string (st t),.slice aok k.len capk];have b1:=Blk.new (w.alloc (.cells #[.string (st n),.slice aoa a.length capa,.string (st t),.slice aok k.len capk] 53)) 9 #[.string (st title)];have b2:=Blk.new ((w.alloc (.cells #[.string (st n),.slice aoa a.length capa,.string (st t),.slice aok k.len capk] 53)).alloc (.cells #[.string (st title)] 9)) 121 #[.func (.func g) #[] #[]];have b3:=Blk.new (((w.alloc (.cells #[.string (st n),.slice aoa a.length capa,.string (st t),.slice aok k.len capk] 53)).alloc (.cells #[.string (st title)] 9)).alloc (.cells #[.func (.func g) #[] #[]] 121)) 53 #[.string ⟨#[]⟩,.slice none 0 0,.string ⟨#[]⟩,.slice none 0 0];simp only [World.size_alloc] at b1 b2 b3;have hal:=((((Below.refl _ w).alloc (Lr) (.cells #[.string (st n),.slice aoa a.length capa,.string (st t),.slice aok k.len capk] 53)).alloc (by simp) (.cells #[.string (st title)] 9)).alloc (by simp;omega) (.cells #[.func (.func g) #[] #[]] 121)).alloc (by simp;omega) (.cells #[.string ⟨#[]⟩,.slice none 0 0,.string ⟨#[]⟩,.slice none 0 0] 53);have AL:=Ld hal;have NB:=Ld (Blk.alloc (Blk.alloc (Blk.alloc b0 (.cells #[.string (st title)] 9)) (.cells #[.func (.func g) #[] #[]] 121)) (.cells #[.string ⟨#[]⟩,.slice none 0 0,.string ⟨#[]⟩,.slice none 0 0] 53));have TB:=Ld (Blk.alloc (Blk.alloc b1 (.cells #[.func (.func g) #[] #[]] 121)) (.cells #[.string ⟨#[]⟩,.slice none 0 0,.string ⟨#[]⟩,.slice none 0 0] 53));have DB:=Ld (Blk.alloc b2 (.cells #[.string ⟨#[]⟩,.slice none 0 0,.string ⟨#[]⟩,.slice none 0 0] 53));have CB:=Ld b3;have HDO:=Ld hdo;have HAT:=Ld hat
 have HKW:=Ld hK;have HVK:=Ld hvk;have HV1:=Ld hv1;clear b0 b1 b2 b3 hal hX hR hdo hat hK hvk hv1;unfold z05;go_enter func68,ntmps68;go_upto_region 1 with fail;generalize (((w.alloc (.cells #[.string (st n),.slice aoa a.length capa,.string (st t),.slice aok k.len capk] 53)).alloc (.cells #[.string (st title)] 9)).alloc (.cells #[.func (.func g) #[] #[]] 121)).alloc (.cells #[.string ⟨#[]⟩,.slice none 0 0,.string ⟨#[]⟩,.slice none 0 0] 53)=w1 at AL NB TB DB CB ⊢;have hNC:w.heap.size ≠ w.heap.size + 1 + 1 + 1:=by omega
 have hCC:w.heap.size≤w.heap.size + 1 + 1 + 1:=by omega
 generalize w.heap.size + 1 + 1 + 1=C at CB hNC hCC ⊢;generalize w.heap.size + 1 + 1=D at DB ⊢;generalize w.heap.size + 1=T at TB ⊢;have hK1:∀ b,K b→b < w1.heap.size:=fun b q=>Nat.lt_of_lt_of_le (HKW.out b q) AL.out.size
 have HI:=Ld (q5a 117 #[.pointer (some ⟨T,0,none⟩),.pointer (some ⟨D,0,none⟩)] _ eg_child k _ K w1 (HVK.out.below HKW.out AL.out) hK1 hl (j0o g eg title p T D k K w1 (Blk.lt TB.out) (Blk.lt DB.out) (Blk.cell TB.out 0) (Blk.cell DB.out 0) hK1 (HDO.out.up AL.out)));have c3:w1.cell? ⟨w.heap.size,3,none⟩=some (.slice aok k.len capk):=Blk.cell NB.out 3;have hNl:=Blk.lt NB.out;have hCl:=Blk.lt CB.out;clear TB DB HDO;go_wp2_with fail;refine HI.out.mono ?_;rintro e w2 ⟨hb,i,rfl,hi⟩;have B2:=Ld (AL.out.trans (hb.mono AL.out.size));have d3:w2.cell? ⟨w.heap.size,3,none⟩=some (.slice aok k.len capk):=(hb.cell (p:=⟨w.heap.size,3,none⟩) hNl).trans c3;have CB2:=Ld ((hb.block C hCl).trans CB.out);have z0:w2.cell? ⟨C,0,none⟩=some (.string ⟨#[]⟩):=Blk.cell CB2.out 0;have z1:w2.cell? ⟨C,1,none⟩=some (.slice none 0 0):=Blk.cell CB2.out 1;have z2:w2.cell? ⟨C,2,none⟩=some (.string ⟨#[]⟩):=Blk.cell CB2.out 2;have z3:w2.cell? ⟨C,3,none⟩=some (.slice none 0 0):=Blk.cell CB2.out 3;have y:∀ i,w2.frozen? ⟨C,i,none⟩=false:=Blk.frozen CB2.out;have HB:Hid (∀ a b c d,Below w.heap.size w (ansW w2 C a b c d)):=fun a b c d=>(((B2.out.setCell (p:=⟨C,0,none⟩) hCC a).setCell (p:=⟨C,1,none⟩) hCC b).setCell (p:=⟨C,2,none⟩) hCC c).setCell (p:=⟨C,3,none⟩) hCC d
 clear hb HI AL NB CB c3 CB2
 rcases hi with ⟨rfl,h2⟩ | ⟨j,n',a',t',kk,r,rfl,hd,h2⟩
 ·have HE:Hid (opt=none):=by show _=_;rw[HX.out,h2]
  have HO:Hid (out=Fd.Nd.none):=by show _=_;rw[HR.out,HE.out];rfl
  clear h2 HX HR;go_wp2_with fail;refine bodyPost_ret (v:=.tuple #[z05 [] (.slice none 0 0) [] (.slice none 0 0),.bool false]) (by simp[results,results68,go_sem, *];rfl) rfl ?_;rw[HE.out,HO.out];exact⟨HB.out _ _ _ _,.slice none 0 0,.slice none 0 0,rfl,NdV.none _ _⟩
 ·have HE:Hid (opt=some ⟨n',a',t',kk⟩):=by show _=_;rw[HX.out,h2]
  have HO:Hid (out=⟨n',a',t',kk⟩):=by show _=_;rw[HR.out,HE.out];rfl
  have hjl:j < k.len:=by
   rcases Nat.lt_or_ge j k.len with q | q
   ·exact q
   ·have hr:=Mk.Fo.j5f k j
    rw[hd] at hr;simp only [Mk.Fo.len] at hr;omega
  rcases HV1.out with ⟨hq,hKg⟩ | ⟨ao,hq,h0⟩
  ·injection hq with q1 q2 q3
   subst q1;obtain⟨va',vk',e0,e1,e2,e3,hva',hvk'⟩:=HAT.out j n' a' t' kk r hd;rw[← B2.out.cell (p:=⟨g0,_,none⟩) (HKW.out g0 hKg)] at e0 e1 e2 e3;obtain⟨aoa',capa',hva1',_⟩:=id hva';subst hva1';obtain⟨aok',capk',xsk',hvk1',_⟩:=id hvk';subst hvk1';have FIN:=Ld (And.intro (HB.out (.string (st n')) (.slice aoa' a'.length capa') (.string (st t')) (.slice aok' kk.len capk')) (And.intro (hva'.below HKW.out (HB.out (.string (st n')) (.slice aoa' a'.length capa') (.string (st t')) (.slice aok' kk.len capk'))) (hvk'.below HKW.out (HB.out (.string (st n')) (.slice aoa' a'.length capa') (.string (st t')) (.slice aok' kk.len capk')))));have hji:(j:Int) < k.len:=by omega
   have hj0:¬ (j:Int) < 0:=by omega
   have hj1:(0:Int)≤j:=by omega
   clear h2 HX HR HAT hva' hvk' HB hd HVK HV1;go_wp2_with fail;refine bodyPost_ret (v:=.tuple #[z05 n' (.slice aoa' a'.length capa') t' (.slice aok' kk.len capk'),.bool true]) (by simp[results,results68,go_sem, *];rfl) rfl ?_;rw[HE.out,HO.out];exact⟨FIN.out.1,_,_,rfl,FIN.out.2⟩
  ·subst h0
   simp[Mk.Fo.len] at hjl
theorem z3o (title:List UInt8) (p:Fd.Nd→Bool):∀ k:Mk.Fo,Mk.Fo.atB (childR title p k).ats + (childR title p k).text.length + (childR title p k).kids.bulk≤k.bulk
 | .nil=>by show 0 + 0 + 0≤0;omega
 | .node n a t k r=>by
  have ih:=z3o title p r;have e:Mk.Fo.bulk (.node n a t k r)=1 + n.length + t.length + Mk.Fo.atB a + Mk.Fo.bulk k + Mk.Fo.bulk r:=rfl;rw[e];unfold childR at ih ⊢;unfold Fd.z2z
  split
  ·show Mk.Fo.atB a + t.length + k.bulk≤_
   omega
  ·omega
theorem q9i (n title:List UInt8) (a:List Mk.At) (t:List UInt8) (va vk:Value) (k:Mk.Fo) (K:Nat→Prop) (w:World) (hva:∃ ao cap,va=.slice ao a.length cap) (hvk:FoV w K vk k) (hK:∀ b,K b→b < w.heap.size) (hl:k.bulk≤33554432) :
  Calls prog 118 #[z05 n va t vk,.string (st title)] w fun e w'=>e=.returned (.string (st (Fd.Q5 k title)))∧Below w.heap.size w w':=by
 obtain⟨aoa,capa,rfl⟩:=hva;obtain⟨aok,capk,xsk,hvk1,_⟩:=id hvk;subst hvk1;have HW:Hid (Fd.Q5 k title=Fd.q7a ((childR title (fun _=>true) k).text++Fd.z16 (childR title (fun _=>true) k).kids)):=rfl;generalize Fd.Q5 k title=out at HW ⊢;have hal:=(Below.refl w.heap.size w).alloc (Lr) (.cells #[.string (st n),.slice aoa a.length capa,.string (st t),.slice aok k.len capk] 53);have hK1:∀ b,K b→b < (w.alloc (.cells #[.string (st n),.slice aoa a.length capa,.string (st t),.slice aok k.len capk] 53)).heap.size:=fun b q=>Nat.lt_of_lt_of_le (hK b q) hal.size
 have HC:=Ld (q09 69 q4e n title a t (.slice aoa a.length capa) (.slice aok k.len capk) k (fun _=>true) K _ ⟨_,_,rfl⟩ (hvk.below hK hal) hK1 hl (z8z k K _));have AL:=Ld hal;have NB:=Ld (Blk.new w 53 #[.string (st n),.slice aoa a.length capa,.string (st t),.slice aok k.len capk]);have hcb:=z3o title (fun _=>true) k;generalize childR title (fun _=>true) k=x at HW HC hcb;have HK1:=Ld hK1;clear hal hvk hK1;unfold z05 at HC ⊢;go_enter func118,ntmps118;go_upto_region 1 with fail;generalize w.alloc (.cells #[.string (st n),.slice aoa a.length capa,.string (st t),.slice aok k.len capk] 53)=w1 at AL NB HC HK1 ⊢;have n0:w1.cell? ⟨w.heap.size,0,none⟩=some (.string (st n)):=Blk.cell NB.out 0;have n1:w1.cell? ⟨w.heap.size,1,none⟩=some (.slice aoa a.length capa):=Blk.cell NB.out 1;have n2:w1.cell? ⟨w.heap.size,2,none⟩=some (.string (st t)):=Blk.cell NB.out 2;have n3:w1.cell? ⟨w.heap.size,3,none⟩=some (.slice aok k.len capk):=Blk.cell NB.out 3;go_wp2_with fail;refine HC.out.mono ?_;rintro e w2 ⟨hb,va',vk',rfl,hnd⟩;have B2:=Ld (AL.out.trans (hb.mono AL.out.size));obtain⟨aoa',capa',hva1',_⟩:=id hnd.1;subst hva1';obtain⟨aok',capk',xsk',hvk1',_⟩:=id hnd.2;subst hvk1';have hK2:∀ b,K b→b < w2.heap.size:=fun b q=>Nat.lt_of_lt_of_le (HK1.out b q) hb.size
 have hal2:=(Below.refl w2.heap.size w2).alloc (Lr) (.cells #[.string (st x.name),.slice aoa' x.ats.length capa',.string (st x.text),.slice aok' x.kids.len capk'] 53);have HT:=Ld (fd_text (x.kids.bulk + 1) x.name x.ats x.text x.kids (Nat.lt_succ_self _) (by omega) _ _ K _ (hnd.1.below hK2 hal2) (hnd.2.below hK2 hal2) (fun b q=>Nat.lt_of_lt_of_le (hK2 b q) hal2.size));have B3:=Ld (B2.out.trans (hal2.mono B2.out.size));have MB:=Ld (Blk.new w2 53 #[.string (st x.name),.slice aoa' x.ats.length capa',.string (st x.text),.slice aok' x.kids.len capk']);have htb:=Fd.z2k x.kids;unfold z05 at HT;clear hb hnd hal2 hK2 HC n0 n1 n2 n3 NB AL B2 HK1;go_upto_region 2 with fail;generalize w2.alloc (.cells #[.string (st x.name),.slice aoa' x.ats.length capa',.string (st x.text),.slice aok' x.kids.len capk'] 53)=w3 at B3 MB HT ⊢;have m0:w3.cell? ⟨w2.heap.size,0,none⟩=some (.string (st x.name)):=Blk.cell MB.out 0;have m1:w3.cell? ⟨w2.heap.size,1,none⟩=some (.slice aoa' x.ats.length capa'):=Blk.cell MB.out 1;have m2:w3.cell? ⟨w2.heap.size,2,none⟩=some (.string (st x.text)):=Blk.cell MB.out 2;have m3:w3.cell? ⟨w2.heap.size,3,none⟩=some (.slice aok' x.kids.len capk'):=Blk.cell MB.out 3;clear MB;go_wp2_with fail;refine HT.out.mono ?_;rintro e w4 ⟨rfl,hb4⟩;have B4:=Ld (B3.out.trans (hb4.mono B3.out.size));have HTR:=Ld (fd_trim (x.text++Fd.z16 x.kids) w4 (by rw[List.length_append];omega));clear hb4 HT m0 m1 m2 m3 B3;go_wp2_with fail;refine HTR.out.mono ?_;rintro e w5 ⟨rfl,hw5⟩;subst w5;go_wp2_with fail;go_ret;exact⟨by (rw[HW.out]) <;> rfl,B4.out⟩
end Go.Proofs.YtjonkbdldebkiaaGreatDoor
namespace Go.Proofs.YtjonkbdldebkiaaGreatDoor
open Go.RowKit
def enV (x:Fd.En):List Value:=[.string (st x.id),.string (st x.ti),.string (st x.li),.int .i64 x.at_,.string (st x.ht)]
def y9 (l:List Fd.En):List Value:=l.flatMap enV
def z18 (w:World) (K:Nat→Prop) (v:Value) (l:List Fd.En):Prop:=∃ ao cap,v=.slice ao l.length cap∧z19 w K ao (y9 l)∧l.length≤cap∧l.length≤maxLen
theorem z18.frame {w w':World} {K K':Nat→Prop} {v:Value} {l:List Fd.En} (h:z18 w K v l) (hk:∀ b,K b→K' b∧w'.heap[b]? = w.heap[b]?):z18 w' K' v l:=by
 obtain⟨ao,cap,h1,h2,h3⟩:=h;exact⟨ao,cap,h1,h2.frame hk,h3⟩
theorem z18.below {w w':World} {K:Nat→Prop} {v:Value} {l:List Fd.En} {B:Nat} (h:z18 w K v l) (hK:∀ b,K b→b < B) (hb:Below B w w'):z18 w' K v l:=h.frame fun b q=>⟨q,hb.block b (hK b q)⟩
theorem z18.nil (w:World) (K:Nat→Prop):z18 w K (.slice none 0 0) []:=⟨none,0,rfl,.inl rfl,Lr,Nat.zero_le _⟩
theorem Y9 (l:List Fd.En):(y9 l).length=l.length * 5:=by
 induction l with
 | nil=>rfl
 | cons a t ih=>rw[show y9 (a :: t)=enV a++y9 t from rfl,List.length_append,ih,List.length_cons];simp[enV];omega
theorem z9q (l:List Fd.En) (k:Nat) (h:k < l.length):(y9 l)[k * 5]? = some (.string (st l[k].id))∧(y9 l)[k * 5 + 1]? = some (.string (st l[k].ti))∧(y9 l)[k * 5 + 2]? = some (.string (st l[k].li))∧(y9 l)[k * 5 + 3]? = some (.int .i64 l[k].at_)∧(y9 l)[k * 5 + 4]? = some (.string (st l[k].ht)):=by
 induction l generalizing k with
 | nil=>simp at h
 | cons a t ih =>
  cases k with
  | zero=>exact⟨rfl,rfl,rfl,rfl,rfl⟩
  | succ k =>
   have h':k < t.length:=by simpa using h
   have e:y9 (a :: t)=enV a++y9 t:=rfl;have e5:(enV a).length=5:=rfl;rw[e,show (k + 1) * 5=k * 5 + 5 by omega];obtain⟨h1,h2,h3,h4,h5⟩:=ih k h';refine⟨?_,?_,?_,?_,?_⟩
   ·rw[List.getElem?_append_right (by omega),e5];simpa using h1
   ·rw[List.getElem?_append_right (by omega),e5,show k * 5 + 5 + 1 - 5=k * 5 + 1 by omega];simpa using h2
   ·rw[List.getElem?_append_right (by omega),e5,show k * 5 + 5 + 2 - 5=k * 5 + 2 by omega];simpa using h3
   ·rw[List.getElem?_append_right (by omega),e5,show k * 5 + 5 + 3 - 5=k * 5 + 3 by omega];simpa using h4
   ·rw[List.getElem?_append_right (by omega),e5,show k * 5 + 5 + 4 - 5=k * 5 + 4 by omega];simpa using h5
theorem z18.at_ {w:World} {K:Nat→Prop} {v:Value} {l:List Fd.En} (h:z18 w K v l):∃ g o cap,(l ≠ []→K g)∧(v=.slice (some ⟨g,o,none⟩) l.length cap∨∃ ao,v=.slice ao 0 cap∧l=[])∧∀ k (hk:k < l.length),
  w.cell? ⟨g,o + k * 5,none⟩=some (.string (st l[k].id))∧w.cell? ⟨g,o + k * 5 + 1,none⟩=some (.string (st l[k].ti))∧w.cell? ⟨g,o + k * 5 + 2,none⟩=some (.string (st l[k].li))∧w.cell? ⟨g,o + k * 5 + 3,none⟩=some (.int .i64 l[k].at_)∧w.cell? ⟨g,o + k * 5 + 4,none⟩=some (.string (st l[k].ht)):=by
 obtain⟨ao,cap,h1,h2,_⟩:=h
 rcases h2 with h2 | ⟨g,o,h3,h4,h5⟩
 ·have:l=[]:=List.eq_nil_of_length_eq_zero (by have:=Y9 l;rw[h2] at this;simp at this;omega)
  subst this;exact⟨0,0,cap,fun h=>absurd rfl h,.inr ⟨ao,h1,rfl⟩,fun k hk=>absurd hk (Nat.not_lt_zero _)⟩
 ·refine⟨g,o,cap,fun _=>h4,.inl (by rw[h1,h3]),fun k hk=>?_⟩
  obtain⟨e1,e2,e3,e4,e5⟩:=z9q l k hk;exact⟨h5 _ _ e1,by rw[Nat.add_assoc];exact h5 _ _ e2,by rw[Nat.add_assoc];exact h5 _ _ e3,by rw[Nat.add_assoc];exact h5 _ _ e4,by rw[Nat.add_assoc];exact h5 _ _ e5⟩
end Go.Proofs.YtjonkbdldebkiaaGreatDoor
namespace Go.Proofs.YtjonkbdldebkiaaGreatDoor
open Go.Proofs.Tryz Go.RowKit
def enAg (x:Fd.En):Value:=.agg #[.string (st x.id),.string (st x.ti),.string (st x.li),.int .i64 x.at_,.string (st x.ht)]
def AsksE (g:FuncId) (lb:Array Value) (q:Fd.En→Bool) (l:List Fd.En) (w:World):Prop :=
 ∀ w1,Below w.heap.size w w1→∀ x,x ∈ l→Calls prog g (#[enAg x]++lb) w1 fun e w'=>e=.returned (.bool (q x))∧Below w1.heap.size w1 w'
theorem z8s (g:FuncId) (lb:Array Value) (q:Fd.En→Bool) (eg:∀ args w,(callFunc g args).run prog w=.ok (.enter g args) w) (l:List Fd.En) (v:Value) (K:Nat→Prop) (w:World) (hv:z18 w K v l) (hK:∀ b,K b→b < w.heap.size) (hl:l.length≤33554432) (hq:AsksE g lb q l w) :
  Calls prog 146 #[v,.func (.func g) #[] lb] w fun e w'=>Below w.heap.size w w'∧∃ i:Int,e=.returned (.int .i64 i)∧((i = -1∧∀ x ∈ l,q x=false)∨∃ (j:Nat) (hj:j < l.length),i=(j:Int)∧q l[j]=true∧∀ x ∈ l.take j,q x=false):=by
 obtain⟨b,o,cap,hKb,hv1,hcl⟩:=hv.at_
 have HQ:=Ld hq;have HC:=Ld hcl;clear hq hcl
 rcases hv1 with hv1 | ⟨ao,hv1,hl0⟩
 ·subst hv1
  go_enter func146,ntmps146;go_wp2_with fail
  go_loopw [8] (fun i wr=>∃ k:Nat,k≤l.length∧i=.int .i64 k∧Hid (∀ x ∈ l.take k,q x=false)∧Hid (Below w.heap.size w wr)) (fun i _=>l.length - (intOf i).toNat)
  case atStart=>exact⟨0,Nat.zero_le _,rfl,fun x h=>absurd h (by simp),Below.refl _ _⟩
  case round =>
   obtain⟨k,hk,rfl,HA,BL⟩:=hrel
   by_cases hlt:k < l.length
   ·have hb:b < w.heap.size:=hK b (hKb (by intro e;subst e;simp at hlt))
    obtain⟨c0,c1,c2,c3,c4⟩:=HC.out k hlt;rw[← BL.out.cell (p:=⟨b,_,none⟩) hb] at c0 c1 c2 c3 c4;have hcall:=HQ.out wr BL.out l[k] (List.getElem_mem _);obtain⟨bb,hbb⟩:∃ bb,q l[k]=bb:=⟨_,rfl⟩;rw[hbb] at hcall;have HBB:=Ld hbb;clear hbb;unfold enAg at hcall;have HCALL:=Ld hcall;clear hcall
    cases bb with
    | true =>
     go_wp2_with fail;refine HCALL.out.mono ?_;rintro e w1 ⟨rfl,hb1⟩;have BL1:=Ld (BL.out.trans (hb1.mono BL.out.size));clear hb1;go_wp2_with fail;go_ret;exact⟨BL1.out,k,rfl,.inr ⟨k,hlt,rfl,HBB.out,HA.out⟩⟩
    | false =>
     go_wp2_with fail;refine HCALL.out.mono ?_;rintro e w1 ⟨rfl,hb1⟩;have BL1:=Ld (BL.out.trans (hb1.mono BL.out.size));have HA2:Hid (∀ x ∈ l.take (k + 1),q x=false):=by
      intro x hx;rw[List.take_succ_eq_append_getElem hlt,List.mem_append,List.mem_singleton] at hx
      rcases hx with hx | rfl
      ·exact HA.out x hx
      ·exact HBB.out
     clear hb1;go_wp2_with fail;go_roundw
     case rel=>exact⟨k + 1,by omega,by go_num,HA2,BL1⟩
     case measure=>simp[intOf];omega
   ·have HN:Hid (∀ x ∈ l,q x=false):=by
     have:=HA.out;rw[List.take_of_length_le (by omega)] at this;exact this
    clear HA;go_wp2_with fail;go_ret;exact⟨BL.out,-1,rfl,.inl ⟨rfl,HN.out⟩⟩
 ·subst hl0
  subst hv1;clear HC hK;go_enter func146,ntmps146;go_wp2_with fail
  go_loopw [8] (fun i wr=>i=.int .i64 0∧wr=w) (fun _ _=>0)
  case atStart=>exact⟨rfl,rfl⟩
  case round =>
   obtain⟨rfl,rfl⟩:=hrel;go_wp2_with fail;go_ret;exact⟨Below.refl _ _,-1,rfl,.inl ⟨rfl,fun _ h=>nomatch h⟩⟩
theorem q02 (g:FuncId) (lb:Array Value) (q:Fd.En→Bool) (eg:∀ args w,(callFunc g args).run prog w=.ok (.enter g args) w) (l:List Fd.En) (v:Value) (K:Nat→Prop) (w:World) (hv:z18 w K v l) (hK:∀ b,K b→b < w.heap.size) (hl:l.length≤33554432) (hq:AsksE g lb q l w) :
  Calls prog 176 #[v,.func (.func g) #[] lb] w fun e w'=>e=.returned (.bool (l.any q))∧Below w.heap.size w w':=by
 have HI:=Ld (z8s g lb q eg l v K w hv hK hl hq);clear hq hK hv;go_enter func176,ntmps176;go_wp2_with fail;refine HI.out.mono ?_;rintro e w1 ⟨hb,i,rfl,hi⟩;have HB:=Ld hb;have H2:Hid (decide (0≤i)=l.any q):=by
  show _=_
  rcases hi with ⟨rfl,h⟩ | ⟨j,hj,rfl,h,_⟩
  ·rw[decide_eq_false (by decide)]
   symm
   rw[Bool.eq_false_iff];intro hq;rw[List.any_eq_true] at hq;obtain⟨x,hx,hq⟩:=hq;rw[h x hx] at hq;cases hq
  ·rw[decide_eq_true (by omega)]
   symm
   rw[List.any_eq_true];exact⟨_,List.getElem_mem hj,h⟩
 clear hb hi;go_wp2_with fail;go_ret;exact⟨Z8 H2.out,HB.out⟩
end Go.Proofs.YtjonkbdldebkiaaGreatDoor
