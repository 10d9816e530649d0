/- Contracts of the program's Markup and Html. Conditions on what is built; Told answers at every text and value that stays. -/
import Derived.Test.YtjonkbdldebkiaaGreatDoorVMkRep3
import Derived.Test.YtjonkbdldebkiaaGreatDoorVMkFlat1
import Derived.Test.YtjonkbdldebkiaaGreatDoorVMkClean5
import Derived.Test.YtjonkbdldebkiaaGreatDoorVMkTok8
import Derived.Test.YtjonkbdldebkiaaGreatDoorVUrlPlain
set_option linter.unusedVariables false
set_option linter.unusedSimpArgs false
set_option maxHeartbeats 4000000
set_option maxRecDepth 100000
namespace Mk
structure Fits (base s:Bs):Prop where
 len:s.length≤3000
 toks:Bld.tokB (toks s)≤549755813000
 built:(build (Mk.toks s)).bulk≤1048576
 out:(clean base (build (Mk.toks s))).bulk≤549755813888
 bytes:(html base s).length≤1099511627776
end Mk
namespace Go.Proofs.YtjonkbdldebkiaaGreatDoor
open Go.Proofs.Tryz Go.RowKit
theorem j4s (base s:List UInt8) (w:World) (hg:Gl w) (hf:Mk.Fits base s) (hT:∀ t ∈ Mk.flat (Mk.clean base (Mk.build (Mk.toks s))),z8a t) :
  Calls prog 55 #[.string (st base),.string (st s)] w fun e w'=>e=.returned (.string (st (Mk.html base s)))∧Below w.heap.size w w':=by
 have HA:=Ld (mk_All (st s) w hg (by have:=hf.len;rw[Z4];omega));have HF:=Ld hf;have HT:=Ld hT;have HE:Hid (Mk.bytes (Mk.flat (Mk.clean base (Mk.build (Mk.toks s))))=Mk.html base s):=rfl;clear hf hT;go_enter func55,ntmps55;go_wp2_with fail;refine HA.out.mono ?_;rintro e w1 ⟨v1,rfl,hv1,hb1⟩;have B1:=Ld hb1;have HO:=Ld (tr_Of (Mk.toks s) v1 _ w1 hv1 (fun b q=>q.2) HF.out.toks);clear hv1 hb1 HA;go_wp2_with fail;refine HO.out.mono ?_;rintro e w2 ⟨v2,rfl,hv2,hb2⟩;have B2:=Ld (B1.out.trans (hb2.mono B1.out.size));have HC:=Ld (cl_Of base (Mk.build (Mk.toks s)) v2 _ w2 (Nat.le_trans HF.out.built (by decide)) hv2 (fun b q=>q.2));clear hv2 HO;go_wp2_with fail;refine HC.out.mono ?_;rintro e w3 ⟨v3,rfl,hv3,hb3⟩;have B3:=Ld (B2.out.trans (hb3.mono B2.out.size));have HK:=Ld (q79 ((Mk.clean base (Mk.build (Mk.toks s))).bulk + 1) (Mk.clean base (Mk.build (Mk.toks s))) (Nat.lt_succ_self _) HF.out.out v3 _ w3 hv3 (fun b q=>q.elim (fun q=>Nat.lt_of_lt_of_le q.2 hb3.size) (fun q=>q.2)));clear hv3 hb3 hb2 HC;go_wp2_with fail;refine HK.out.mono ?_;rintro e w4 ⟨v4,xs4,rfl,hv4,_,hb4⟩;have B4:=Ld (B3.out.trans (hb4.mono B3.out.size));have HB:=Ld (j0a (Mk.flat (Mk.clean base (Mk.build (Mk.toks s)))) v4 _ w4 hv4.toksV (fun b q=>q.2) HT.out HF.out.bytes);clear hv4 hb4 HK;go_wp2_with fail;refine HB.out.mono ?_;rintro e w5 ⟨rfl,hb5⟩;have B5:=Ld (B4.out.trans (hb5.mono B4.out.size));clear hb5 HB;go_wp2_with fail;go_ret;exact⟨by rw[← HE.out];rfl,B5.out⟩
theorem cl_Html (base s:List UInt8) (w:World) (hg:Gl w) (hb:base.length≤3000) (hf:Mk.Fits base s) (hT:∀ t ∈ Mk.flat (Mk.clean base (Mk.build (Mk.toks s))),z8a t) :
  Calls prog 19 #[.string (st base),.string (st s)] w fun e w'=>e=.returned (.tuple #[.string (st (Mk.html base s)),.int .i64 0])∧Below w.heap.size w w':=by
 have HM:=Ld (j4s base s w hg hf hT);have h1:¬ 3000 < (st base).size:=by rw[Z4];omega
 have h2:¬ 3000 < (st s).size:=by have:=hf.len;rw[Z4];omega
 clear hf hT;go_enter func19,ntmps19;go_wp2_with fail;refine HM.out.mono ?_;rintro e w1 ⟨rfl,hb1⟩;have B1:=Ld hb1;clear hb1 HM;go_wp2_with fail;go_ret2;exact⟨rfl,B1.out⟩
end Go.Proofs.YtjonkbdldebkiaaGreatDoor
namespace Mk
def z2y (n:Bs) (a:List At) (k:Fo):Bool:=(decide (n ≠ []) && (!z1j n || q5s n a || (decide (n=[105,109,103]) && !z4m a [115,114,99]))) || !z8r k
theorem j6z (n:Bs) (a:List At) (t:Bs) (k r:Fo):z8r (.node n a t k r)=(!z2y n a k && z8r r):=rfl
theorem atB_val {a:At} {l:List At} (h:a ∈ l):a.v.length≤Fo.atB l:=by
 have:=q0h h;omega
def z7k:Fo→Bool | .nil=>false | .node n a _ k r=>z2y n a k || z7k r
theorem j03:∀ f:Fo,z8r f = !z7k f
 | .nil=>rfl
 | .node n a t k r=>by
  rw[j6z,j03 r];show _ = !(z2y n a k || z7k r)
  cases z2y n a k <;> rfl
end Mk
namespace Go.Proofs.YtjonkbdldebkiaaGreatDoor
open Go.Proofs.Tryz Go.RowKit
theorem asks_bad (P:Nat) (n:List UInt8) (l:List Mk.At) (w:World) (hP:P < w.heap.size) (hc:w.cell? ⟨P,0,none⟩=some (.string (st n))) (hv:∀ a ∈ l,a.v.length≤33554432):q5m 135 #[.pointer (some ⟨P,0,none⟩)] (fun a=>!Mk.mayB n a.n || (Mk.q19 a.n && !Mk.z1k a.v)) l w:=by
 intro w1 hb a ha;have hva:=hv a ha;have c0:w1.cell? ⟨P,0,none⟩=some (.string (st n)):=(hb.cell (p:=⟨P,0,none⟩) hP).trans hc;have hP1:P < w1.heap.size:=Nat.lt_of_lt_of_le hP hb.size;have hal:=(Below.refl w1.heap.size w1).alloc (Lr) (.cells #[.string (st a.n),.string (st a.v)] 56);have PB:=Ld (Blk.new w1 56 #[.string (st a.n),.string (st a.v)]);have c1:(w1.alloc (.cells #[.string (st a.n),.string (st a.v)] 56)).cell? ⟨P,0,none⟩=some (.string (st n)):=(hal.cell (p:=⟨P,0,none⟩) hP1).trans c0;have HA:=Ld (j4u n a (w1.alloc (.cells #[.string (st a.n),.string (st a.v)] 56)));have HL:=Ld (fun W=>j4v a.n W);have HI:=Ld (fun W=>j0g (st a.v) W (by rw[Z4];omega));have hlen:(st a.v).size=a.v.length:=Z4 _;have HAL:=Ld hal;clear hal hc hv hva c0;unfold atV at HA;unfold atV;go_enter func135,ntmps135;go_wp2_with fail;refine HA.out.mono ?_;rintro e w2 ⟨rfl,hb2⟩;have HB2:=Ld (HAL.out.trans (hb2.mono HAL.out.size));have PB2:=Ld (Blk.below PB.out hb2 (Blk.lt PB.out));clear hb2 HA PB HAL c1;obtain⟨bm,hbm⟩:∃ b,Mk.mayB n a.n=b:=⟨_,rfl⟩;have HBM:=Ld hbm;rw[hbm];clear hbm
 cases bm with
 | false =>
  go_wp2_with fail;go_ret;exact⟨Z8 (by rw[HBM.out];rfl),HB2.out⟩
 | true =>
  have p0:w2.cell? ⟨w1.heap.size,0,none⟩=some (.string (st a.n)):=Blk.cell PB2.out 0;have p1:w2.cell? ⟨w1.heap.size,1,none⟩=some (.string (st a.v)):=Blk.cell PB2.out 1;obtain⟨bl,hbl⟩:∃ b,Mk.q19 a.n=b:=⟨_,rfl⟩;rw[hbl] at HL;have HBN:=Ld hbl;clear hbl;go_wp2_with fail;refine(HL.out _).mono ?_;rintro e w3 ⟨rfl,hw3⟩;subst w3
  cases bl with
  | false =>
   go_wp2_with fail;go_ret;exact⟨Z8 (by rw[HBM.out,HBN.out];rfl),HB2.out⟩
  | true =>
   go_wp2_with fail;refine(HI.out _).mono ?_;rintro e w4 ⟨rfl,hb4⟩;have p4:w4.cell? ⟨w1.heap.size,1,none⟩=some (.string (st a.v)):=(hb4.cell (p:=⟨w1.heap.size,1,none⟩) (Blk.lt PB2.out)).trans p1;have HB4:=Ld (HB2.out.trans (hb4.mono HB2.out.size));rw[show (st a.v).data.toList=a.v from rfl];have hgl:Mk.z1k a.v=(Mg.isSafe a.v && decide (a.v.length≤3000)):=rfl;obtain⟨bs,hbs⟩:∃ b,Mg.isSafe a.v=b:=⟨_,rfl⟩;rw[hbs] at hgl ⊢;clear hbs HB2 hb4 HI HL PB2 p0 p1
   cases bs with
   | false =>
    have HG:=Ld hgl;clear hgl;go_wp2_with fail;go_ret;exact⟨Z8 (by rw[HBM.out,HBN.out,HG.out];rfl),HB4.out⟩
   | true =>
    by_cases hl:3000 < a.v.length
    ·have HG:Hid (Mk.z1k a.v=false):=by show _=_;rw[hgl];simp;omega
     clear hgl;go_wp2_with fail;go_ret;exact⟨Z8 (by rw[HBM.out,HBN.out,HG.out];first | rfl | simp;omega),HB4.out⟩
    ·have HG:Hid (Mk.z1k a.v=true):=by show _=_;rw[hgl];simp;omega
     clear hgl;go_wp2_with fail;go_ret;exact⟨Z8 (by rw[HBM.out,HBN.out,HG.out];first | rfl | simp;omega),HB4.out⟩
theorem eg_bad (args:Array Value) (w:World):(callFunc 135 args).run prog w=.ok (.enter 135 args) w:=Z7 func135 (by kernel_rfl) rfl _ _
def SafeC (f:Mk.Fo):Prop:=∀ (v:Value) (K:Nat→Prop) (w:World),FoV w K v f→(∀ b,K b→b < w.heap.size)→Calls prog 81 #[v] w fun e w'=>e=.returned (.bool (Mk.z8r f))∧Below w.heap.size w w'
theorem eg_safe1 (args:Array Value) (w:World):(callFunc 133 args).run prog w=.ok (.enter 133 args) w:=Z7 func133 (by kernel_rfl) rfl _ _
theorem cl_safe1 (n t:List UInt8) (a:List Mk.At) (k:Mk.Fo) (hk:SafeC k) (va vk:Value) (K:Nat→Prop) (w:World) (hva:AtsV w K va a) (hvk:FoV w K vk k) (hK:∀ b,K b→b < w.heap.size) (ha:Mk.Fo.atB a≤33554432) :
  Calls prog 133 #[z05 n va t vk] w fun e w'=>e=.returned (.bool (Mk.z2y n a k))∧Below w.heap.size w w':=by
 have hst:∀ l:List UInt8,(st l).toList=l:=fun l=>Lib.toList_data _
 obtain⟨aoa,capa,hva1,_⟩:=id hva;obtain⟨aok,capk,xsk,hvk1,_⟩:=id hvk;subst hva1;subst hvk1;have hal:=(Below.refl w.heap.size w).alloc (Lr) (.cells #[.string (st n),.slice aoa a.length capa,.string (st t),.slice aok k.len capk] 53);have PB:=Blk.new w 53 #[.string (st n),.slice aoa a.length capa,.string (st t),.slice aok k.len capk];have hatl:=Mk.z5f a;have HCF:=Ld (z2c 135 #[.pointer (some ⟨w.heap.size,0,none⟩)] (fun a=>!Mk.mayB n a.n || (Mk.q19 a.n && !Mk.z1k a.v)) eg_bad a (.slice aoa a.length capa) K (w.alloc (.cells #[.string (st n),.slice aoa a.length capa,.string (st t),.slice aok k.len capk] 53)) (hva.below hK hal) (fun b q=>Nat.lt_of_lt_of_le (hK b q) hal.size) (by omega) (asks_bad w.heap.size n a _ PB.lt (PB.cell 0) (fun x hx=>by have:=Mk.atB_val hx;omega)));have HBA:Hid (a.any (fun a=>!Mk.mayB n a.n || (Mk.q19 a.n && !Mk.z1k a.v))=Mk.q5s n a):=rfl;have HBO:Hid (Mk.z2y n a k=((decide (n ≠ []) && (!Mk.z1j n || Mk.q5s n a || (decide (n=[105,109,103]) && !Mk.z4m a [115,114,99]))) || !Mk.z8r k)):=rfl;have HPB:=Ld PB;have HAL:=Ld hal;have HVA:=Ld hva;have HVK:=Ld hvk;have HK:=Ld hK;have HSK:=Ld hk;have hne:(n=[]∧n.isEmpty=true)∨(n ≠ []∧n.isEmpty=false):=by
  cases n with
  | nil=>exact .inl ⟨rfl,rfl⟩
  | cons _ _=>exact .inr ⟨by simp,rfl⟩
 have him:(n=[105,109,103]∧(n == [105,109,103])=true)∨(n ≠ [105,109,103]∧(n == [105,109,103])=false):=by
  by_cases h:n=[105,109,103]
  ·exact .inl ⟨h,beq_iff_eq.2 h⟩
  ·exact .inr ⟨h,beq_eq_false_iff_ne.2 h⟩
 have HNE:=Ld hne;have HIM:=Ld him;clear hva hvk hK hk hal PB hne him;unfold z05;go_enter func133,ntmps133;go_wp2_with fail;refine HCF.out.mono ?_;rintro e w2 ⟨rfl,hb2⟩;rw[HBA.out];have HB2:=Ld (HAL.out.trans (hb2.mono HAL.out.size));have hP2:=Blk.below HPB.out hb2 (Blk.lt HPB.out);have HP2:=Ld hP2;have p0:w2.cell? ⟨w.heap.size,0,none⟩=some (.string (st n)):=Blk.cell hP2 0;have p3:w2.cell? ⟨w.heap.size,3,none⟩=some (.slice aok k.len capk):=Blk.cell hP2 3;clear hb2 HCF HPB hP2;have HTAIL:Hid (∀ W,Below w.heap.size w W→Calls prog 81 #[.slice aok k.len capk] W fun e w'=>e=.returned (.bool (Mk.z8r k))∧Below w.heap.size w w'):=fun W hW=>(HSK.out (.slice aok k.len capk) K W (HVK.out.below HK.out hW) (fun b q=>Nat.lt_of_lt_of_le (HK.out b q) hW.size)).mono (fun e w' ⟨h1,h2⟩=>⟨h1,hW.trans (h2.mono hW.size)⟩)
 obtain⟨bb,hbb⟩:∃ b,Mk.q5s n a=b:=⟨_,rfl⟩;obtain⟨bk,hbk⟩:∃ b,Mk.z8r k=b:=⟨_,rfl⟩;rw[hbk] at HTAIL;rw[hbb,hbk] at HBO;rw[hbb];clear hbb hbk
 rcases HNE.out with ⟨hn,he⟩ | ⟨hn,he⟩
 ·have HQ:Hid (Mk.z2y n a k = !bk):=by show _=_;rw[HBO.out,hn];rfl
  clear hn HBO;go_wp2_with fail;refine(HTAIL.out _ HB2.out).mono ?_;rintro e w3 ⟨rfl,hb3⟩;have HB3:=Ld hb3;clear hb3 HTAIL;go_wp2_with fail;go_ret;exact⟨Z8 (by rw[HQ.out]),HB3.out⟩
 ·have HQ:Hid (Mk.z2y n a k=((!Mk.z1j n || bb || (decide (n=[105,109,103]) && !Mk.z4m a [115,114,99])) || !bk)):=by show _=_;rw[HBO.out,show decide (n ≠ [])=true from decide_eq_true hn];rfl
  have HALW:=Ld (q2o n w2);obtain⟨bw,hbw⟩:∃ b,Mk.z1j n=b:=⟨_,rfl⟩;rw[hbw] at HALW HQ;clear hn hbw HBO;go_wp2_with fail;refine HALW.out.mono ?_;rintro e w3 ⟨rfl,hb3⟩;have HB3:=Ld (HB2.out.trans (hb3.mono HB2.out.size));have hP3:=Blk.below HP2.out hb3 (Blk.lt HP2.out);have q0:w3.cell? ⟨w.heap.size,0,none⟩=some (.string (st n)):=Blk.cell hP3 0;have q1:w3.cell? ⟨w.heap.size,1,none⟩=some (.slice aoa a.length capa):=Blk.cell hP3 1;have q3:w3.cell? ⟨w.heap.size,3,none⟩=some (.slice aok k.len capk):=Blk.cell hP3 3;have HP3:=Ld hP3;clear hb3 HALW hP3 HB2 HP2 p0 p3
  cases bw with
  | false =>
   have HQ2:Hid (Mk.z2y n a k=true):=by show _=_;rw[HQ.out];rfl
   clear HQ HTAIL;go_wp2_with fail;go_ret;exact⟨Z8 (by rw[HQ2.out]),HB3.out⟩
  | true =>
   cases bb with
   | true =>
    have HQ2:Hid (Mk.z2y n a k=true):=by show _=_;rw[HQ.out];rfl
    clear HQ HTAIL;go_wp2_with fail;go_ret;exact⟨Z8 (by rw[HQ2.out]),HB3.out⟩
   | false =>
    rcases HIM.out with ⟨hi,hie⟩ | ⟨hi,hie⟩
    ·have HHA:=Ld (cl_has a [115,114,99] (.slice aoa a.length capa) K w3 (HVA.out.below HK.out HB3.out) (fun b q=>Nat.lt_of_lt_of_le (HK.out b q) HB3.out.size) (by omega))
     obtain⟨bh,hbh⟩:∃ b,Mk.z4m a [115,114,99]=b:=⟨_,rfl⟩;rw[hbh] at HHA HQ;have HQ2:Hid (Mk.z2y n a k=(!bh || !bk)):=by show _=_;rw[HQ.out,show decide (n=[105,109,103])=true from decide_eq_true hi];cases bh <;> rfl
     clear HQ hi hbh;go_wp2_with fail;refine HHA.out.mono ?_;rintro e w4 ⟨rfl,hb4⟩;have HB4:=Ld (HB3.out.trans (hb4.mono HB3.out.size));have r3:w4.cell? ⟨w.heap.size,3,none⟩=some (.slice aok k.len capk):=(hb4.cell (p:=⟨w.heap.size,3,none⟩) (Blk.lt HP3.out)).trans q3;clear hb4 HHA HB3 HP3 q0 q1 q3
     cases bh with
     | false =>
      have HQ3:Hid (Mk.z2y n a k=true):=by show _=_;rw[HQ2.out];rfl
      clear HQ2 HTAIL;go_wp2_with fail;go_ret;exact⟨Z8 (by rw[HQ3.out]),HB4.out⟩
     | true =>
      have HQ3:Hid (Mk.z2y n a k = !bk):=by show _=_;rw[HQ2.out];rfl
      clear HQ2;go_wp2_with fail;refine(HTAIL.out _ HB4.out).mono ?_;rintro e w5 ⟨rfl,hb5⟩;have HB5:=Ld hb5;clear hb5 HTAIL;go_wp2_with fail;go_ret;exact⟨Z8 (by rw[HQ3.out]),HB5.out⟩
    ·have HQ3:Hid (Mk.z2y n a k = !bk):=by show _=_;rw[HQ.out,show decide (n=[105,109,103])=false from decide_eq_false hi];rfl
     clear HQ hi;go_wp2_with fail;refine(HTAIL.out _ HB3.out).mono ?_;rintro e w5 ⟨rfl,hb5⟩;have HB5:=Ld hb5;clear hb5 HTAIL q0 q1 q3 HB3 HP3;go_wp2_with fail;go_ret;exact⟨Z8 (by rw[HQ3.out]),HB5.out⟩
theorem q75 (f:Mk.Fo) (hsub:∀ k n a t kk r,f.drop k=.node n a t kk r→SafeC kk) (hb:f.bulk≤33554432) (v:Value) (K:Nat→Prop) (w:World) (hv:FoV w K v f) (hK:∀ b,K b→b < w.heap.size) :
  Calls prog 116 #[v,.func (.func 133) #[] #[]] w fun e w'=>∃ i:Int,e=.returned (.int .i64 i)∧(decide (0≤i)=Mk.z7k f)∧Below w.heap.size w w':=by
 obtain⟨g,o,cap,hv1,hlen,hat⟩:=hv.at_
 have HAT:=Ld hat
 have HSB:=Ld hsub;have eg:=eg_safe1;have hgl:=Mk.Fo.z1r f;clear hat hsub hv
 rcases hv1 with ⟨hv1,hKg⟩ | ⟨ao,hv1,hnil⟩
 ·subst hv1
  have hgm:=hK g hKg;go_enter func116,ntmps116;go_wp2_with fail
  go_loopw [8] (fun i wr=>∃ k:Nat,k≤f.len∧i=.int .i64 k∧Hid (Mk.z7k f=Mk.z7k (f.drop k))∧Hid (Below w.heap.size w wr)) (fun i _=>f.len - (intOf i).toNat)
  case atStart=>exact⟨0,Nat.zero_le _,rfl,by show _=_;rw[Mk.Fo.drop_zero],Below.refl _ _⟩
  case round =>
   obtain⟨k,hk,rfl,HA,BL⟩:=hrel
   by_cases hlt:k < f.len
   ·obtain⟨n,a,t,kk,r,hd,hd1⟩:=Mk.Fo.z6j f k hlt
    obtain⟨va,vk,c0,c1,c2,c3,hva,hvk⟩:=HAT.out k n a t kk r hd;rw[← BL.out.cell (p:=⟨g,_,none⟩) hgm] at c0 c1 c2 c3;obtain⟨aoa,capa,hva1,_⟩:=id hva;obtain⟨aok,capk,xsk,hvk1,_⟩:=id hvk;subst hva1;subst hvk1;have hdb:(f.drop k).bulk=1 + n.length + t.length + Mk.Fo.atB a + kk.bulk + r.bulk:=by rw[hd];rfl
    have hdb2:=Mk.Fo.z1z f k;have hcall:=cl_safe1 n t a kk (HSB.out k n a t kk r hd) (.slice aoa a.length capa) (.slice aok kk.len capk) K wr (hva.below hK BL.out) (hvk.below hK BL.out) (fun b q=>Nat.lt_of_lt_of_le (hK b q) BL.out.size) (by omega);have HD:Hid (Mk.z7k f=(Mk.z2y n a kk || Mk.z7k (f.drop (k + 1)))):=by show _=_;rw[HA.out,hd,hd1];rfl
    generalize Mk.z2y n a kk=bb at hcall HD;unfold z05 at hcall;have HCALL:=Ld hcall;clear hcall HAT HSB hva hvk hd hd1 hdb hdb2
    cases bb with
    | true =>
     go_wp2_with fail;refine HCALL.out.mono ?_;rintro e w1 ⟨rfl,hb1⟩;have BL1:=BL.out.trans (hb1.mono BL.out.size);go_wp2_with fail;go_ret;exact⟨k,rfl,by rw[HD.out,Bool.true_or];simp,BL1⟩
    | false =>
     go_wp2_with fail;refine HCALL.out.mono ?_;rintro e w1 ⟨rfl,hb1⟩;have BL1:=BL.out.trans (hb1.mono BL.out.size);go_wp2_with fail;go_roundw
     case rel=>exact⟨k + 1,by omega,by go_num,by show _=_;rw[HD.out,Bool.false_or],BL1⟩
     case measure=>simp[intOf];omega
   ·have hkl:k=f.len:=by omega
    have HN:Hid (Mk.z7k f=false):=by show _=_;rw[HA.out,hkl,Mk.Fo.z4e];rfl
    clear HA HAT HSB;go_wp2_with fail;go_ret;exact⟨-1,rfl,by rw[HN.out];rfl,BL.out⟩
 ·subst hnil
  subst hv1;clear HAT HSB;go_enter func116,ntmps116;go_wp2_with fail
  go_loopw [8] (fun i wr=>i=.int .i64 0∧wr=w) (fun _ _=>0)
  case atStart=>exact⟨rfl,rfl⟩
  case round =>
   obtain⟨rfl,rfl⟩:=hrel;go_wp2_with fail;go_ret;exact⟨-1,rfl,rfl,Below.refl _ _⟩
theorem cl_safe (N:Nat):∀ f:Mk.Fo,f.bulk < N→f.bulk≤33554432→SafeC f:=by
 induction N with
 | zero=>intro f hN;omega
 | succ N ih =>
  intro f hN hb v K w hv hK;have HI:=Ld (q75 f (fun k n a t kk r hd=>ih kk (by have h1:=Mk.Fo.z1z f k;rw[hd] at h1;have e:Mk.Fo.bulk (.node n a t kk r)=1 + n.length + t.length + Mk.Fo.atB a + Mk.Fo.bulk kk + Mk.Fo.bulk r:=rfl;omega) (by have h1:=Mk.Fo.z1z f k;rw[hd] at h1;have e:Mk.Fo.bulk (.node n a t kk r)=1 + n.length + t.length + Mk.Fo.atB a + Mk.Fo.bulk kk + Mk.Fo.bulk r:=rfl;omega)) hb v K w hv hK);have HCN:Hid (Calls prog 132 #[v,.func (.func 133) #[] #[]] w fun e w'=>e=.returned (.bool (Mk.z7k f))∧Below w.heap.size w w'):=by
   show Calls _ _ _ _ _;go_enter func132,ntmps132;go_wp2_with fail;refine HI.out.mono ?_;rintro e w1 ⟨i,rfl,hi,hb⟩;have HB:=Ld hb;have H2:=Ld hi;clear hb hi;go_wp2_with fail;go_ret;exact⟨Z8 H2.out,HB.out⟩
  have HSA:=Ld (Mk.j03 f);clear hv hK ih HI;go_enter func81,ntmps81;go_wp2_with fail;refine HCN.out.mono ?_;rintro e w1 ⟨rfl,hb1⟩;have HB:=Ld hb1;clear hb1 HCN;go_wp2_with fail;go_ret;exact⟨Z8 (by rw[HSA.out]),HB.out⟩
end Go.Proofs.YtjonkbdldebkiaaGreatDoor
namespace Mk
open Bld
theorem z7d (s:Bs):(sign s).1.length≤4:=by
 unfold sign
 split
 ·simp
 ·split
  ·simp
  ·split
   ·exact j0h _
   ·simp
theorem q1m:∀ (n:Nat) (s:Bs),(takeN n s).1.length≤4 * s.length
 | 0,s=>by unfold takeN;exact Nat.zero_le _
 | n + 1,[]=>by unfold takeN;exact Nat.zero_le _
 | n + 1,c :: t=>by
  unfold takeN
  split
  ·have h1:=z7d (c :: t)
   have h2:=q1m n ((c :: t).drop (max 1 (sign (c :: t)).2.1));rw[List.length_drop] at h2;simp only [List.length_append];simp only [List.length_cons] at h2 ⊢;omega
  ·have h2:=q1m n t
   simp only [List.length_cons];omega
theorem take_len (s:Bs):(take s).1.length≤4 * s.length:=q1m _ s
theorem q7b (p:UInt8→Bool) (l:Bs):(l.takeWhile p).length + (l.dropWhile p).length=l.length:=by
 rw[← List.length_append,List.takeWhile_append_dropWhile]
theorem q93 {r v r':Bs} (h:valueOf r=some (v,r')):v.length + r'.length≤r.length:=by
 unfold valueOf at h
 split at h
 ·injection h with h
  injection h with h1 h2;rw[← h1,← h2];exact Nat.zero_le _
 ·rename_i q t heq
  have hl:=q7b white r;rw[heq,List.length_cons] at hl
  split at h
  ·split at h
   ·cases h
   ·rename_i _ _ y u heq2
    injection h with h;injection h with h1 h2;have hl2:=q7b (fun x=>x != q) t;rw[heq2,List.length_cons] at hl2;rw[← h1,← h2];omega
  ·injection h with h
   injection h with h1 h2;have hl2:=q7b (fun c=>!white c && c != 62) (q :: t);rw[h1,h2,List.length_cons] at hl2;omega
theorem q40 (l:List At) (a:At):Fo.atB (l++[a])=Fo.atB l + (1 + a.n.length + a.v.length):=by simp[Fo.atB]
theorem q0j:∀ (n:Nat) (r:Bs) (out l:List At) (rest:Bs),z0o n r out=some (l,rest)→Fo.atB l + 8 * rest.length≤Fo.atB out + 8 * r.length
 | 0,_,_,_,_,h=>by cases h
 | n + 1,r,out,l,rest,h=>by
  unfold z0o at h
  split at h
  ·cases h
  ·rename_i c t heq
   have hl:=q7b (fun c=>white c || c == 47) r;rw[heq,List.length_cons] at hl
   split at h
   ·injection h with h
    injection h with h1 h2;rw[← h1,← h2];omega
   ·simp only at h
    split at h
    ·cases h
    ·rename_i v r4 hm
     have ih:=q0j n r4 _ l rest h;have l2:=q7b z0j t;have l3:=q7b white (t.dropWhile z0j);have lf:(Mg.fold (c :: t.takeWhile z0j)).length=(t.takeWhile z0j).length + 1:=by unfold Mg.fold;simp
     have lv:v.length + 4 * r4.length≤4 * ((t.dropWhile z0j).dropWhile white).length:=by
      generalize (t.dropWhile z0j).dropWhile white=r3 at hm
      split at hm
      ·cases hv:valueOf r3.tail with
       | none=>rw[hv] at hm;cases hm
       | some x =>
        rw[hv] at hm;injection hm with hm;injection hm with m1 m2;obtain⟨x1,x2⟩:=x;have k1:=q93 hv;have k2:=take_len x1;have k3:r3.tail.length≤r3.length:=by rw[List.length_tail];omega
        simp only at m1 m2;rw[← m1,← m2];omega
      ·injection hm with hm
       injection hm with m1 m2;rw[← m1,← m2];simp
     have ho:Fo.atB (if (isName (Mg.fold (c :: t.takeWhile z0j)) && !z4m out (Mg.fold (c :: t.takeWhile z0j)))=true then out++[⟨Mg.fold (c :: t.takeWhile z0j),v⟩] else out)≤Fo.atB out + (1 + (Mg.fold (c :: t.takeWhile z0j)).length + v.length):=by
      split
      ·rw[q40]
       exact Lr
      ·omega
     omega
theorem z92 (p:Bs):∀ (r rest:Bs),behind p r=some rest→rest.length≤r.length
 | [],rest,h=>by
  unfold behind at h
  split at h
  ·injection h with h
   rw[← h];exact Lr
  ·cases h
 | c :: t,rest,h=>by
  unfold behind at h
  split at h
  ·injection h with h
   rw[← h,List.length_drop];omega
  ·have:=z92 p t rest h
   rw[List.length_cons];omega
theorem z6z (l:Bs):(Mg.fold l).length=l.length:=by unfold Mg.fold;simp
theorem q83 (c:UInt8) (tl:Bs):(∀ rest,hereAt (c :: tl)=.gone rest→rest.length≤tl.length + 1)∧∀ k rest,hereAt (c :: tl)=.tag k rest→2 + k.name.length + k.text.length + Fo.atB k.ats + 8 * rest.length≤8 * (tl.length + 1):=by
 have hp:∀ p r,r.length≤tl.length + 1→(∀ rest,z1v p r=.gone rest→rest.length≤tl.length + 1)∧∀ k rest,z1v p r=.tag k rest→2 + k.name.length + k.text.length + Fo.atB k.ats + 8 * rest.length≤8 * (tl.length + 1):=by
  intro p r hr;unfold z1v
  split
  ·exact⟨fun _ h=>(by cases h),fun _ _ h=>by cases h⟩
  ·rename_i rest' hb
   refine⟨fun rest h=>?_,fun _ _ h=>by cases h⟩;injection h with h;have:=z92 p _ _ hb;rw[← h];omega
 unfold hereAt
 split
 ·unfold z6n
  rw[List.tail_cons];have hl:=q7b V9 tl;have hf:=z6z (tl.takeWhile V9);simp only
  split
  ·exact⟨fun _ h=>(by cases h),fun _ _ h=>by cases h⟩
  ·rename_i l rest' ha
   have hb:=q0j _ _ [] l rest' ha;have e0:Fo.atB []=0:=rfl
   split
   ·refine⟨fun _ h=>(by cases h),fun k rest h=>?_⟩
    injection h with h1 h2;rw[← h1,← h2];simp only [List.length_nil];omega
   ·refine⟨fun rest h=>?_,fun _ _ h=>by cases h⟩
    injection h with h;rw[← h];omega
 ·split
  ·unfold z3q
   have hl:=q7b V9 ((c :: tl).drop 2);have hd:((c :: tl).drop 2).length≤tl.length:=by rw[List.length_drop,List.length_cons];omega
   have hf:=z6z (((c :: tl).drop 2).takeWhile V9);simp only
   split
   ·exact⟨fun _ h=>(by cases h),fun _ _ h=>by cases h⟩
   ·rename_i rest' hb
    have hb2:=z92 _ _ _ hb
    split
    ·refine⟨fun _ h=>(by cases h),fun k rest h=>?_⟩
     injection h with h1 h2;have e0:Fo.atB []=0:=rfl;rw[← h1,← h2];simp only [List.length_nil];omega
    ·refine⟨fun rest h=>?_,fun _ _ h=>by cases h⟩
     injection h with h;rw[← h];omega
  ·split
   ·exact hp _ _ (by rw[List.length_drop,List.length_cons];omega)
   ·split
    ·exact hp _ _ (by rw[List.length_cons];omega)
    ·exact⟨fun _ h=>(by cases h),fun _ _ h=>by cases h⟩
theorem j0b (l m:List Tok):tokB (l++m)=tokB l + tokB m:=by simp[tokB]
theorem z6y (text:Bs) (out:List Tok):tokB (flush text out)≤tokB out + 8 * text.length:=by
 have h:=take_len text;unfold flush;simp only
 split
 ·omega
 ·rename_i hn
  have:(take text).1.length ≠ 0:=fun e=>hn (List.eq_nil_of_length_eq_zero e)
  have e0:Fo.atB []=0:=rfl;have e1:tokB []=0:=rfl;rw[j0b,z6s,e1];simp only [List.length_nil,e0];omega
theorem z5b:∀ (n:Nat) (r text:Bs) (out:List Tok),tokB (z5a n r text out)≤tokB out + 8 * (text.length + r.length)
 | 0,r,text,out=>by
  have e:z5a 0 r text out=flush text out:=by unfold z5a;rfl
  have:=z6y text out;rw[e];omega
 | n + 1,[],text,out=>by
  have e:z5a (n + 1) [] text out=flush text out:=by unfold z5a;rfl
  have:=z6y text out;rw[e];omega
 | n + 1,c :: t,text,out=>by
  unfold z5a;rw[List.length_cons]
  split
  ·obtain⟨b1,b2⟩:=q83 c t
   split
   ·have:=z5b n t (text++[60]) out
    rw[List.length_append,List.length_singleton] at this;omega
   ·have:=z6y (text++c :: t) out
    rw[List.length_append,List.length_cons] at this;omega
   ·rename_i rest hh
    have:=z5b n rest text out;have:=b1 rest hh;omega
   ·rename_i k rest hh
    have h1:=z5b n rest [] (flush text out++[k]);have h2:=b2 k rest hh;have h3:=z6y text out;have e1:tokB []=0:=rfl;rw[j0b,z6s,e1,List.length_nil] at h1;omega
  ·have:=z5b n t (text++[c]) out
   rw[List.length_append,List.length_singleton] at this;omega
theorem z8v (s:Bs):tokB (toks s)≤8 * s.length:=by
 have:=z5b s.length s [] [];have e1:tokB []=0:=rfl;rw[e1,List.length_nil] at this;show tokB (z5a s.length s [] [])≤_;omega
theorem q65:∀ (l:List Tok) (b:Bld),Bld.bulk (l.foldl token b)≤Bld.bulk b + tokB l
 | [],b=>by show Bld.bulk b≤_;omega
 | t :: l,b=>by
  have h1:=q65 l (b.token t);have h2:=q3n b t;rw[List.foldl_cons,z6s];omega
theorem z6t (l:List Tok):(build l).bulk≤tokB l:=by
 have h1:=q65 l ⟨.nil,[]⟩;have h2:=z6v (l.foldl token ⟨.nil,[]⟩) 0;have h3:=q2r (l.foldl token ⟨.nil,[]⟩);have h4:=q9k _ h3;have h5:Bld.bulk ((l.foldl token ⟨.nil,[]⟩).close 0)=(build l).bulk:=by
  unfold Bld.bulk;rw[h3,h4,z4l];unfold build;simp[opB]
 have h6:Bld.bulk ⟨.nil,[]⟩=0:=rfl;omega
theorem j6t (t:Bs):(put t).length≤6 * t.length:=by
 induction t with
 | nil=>exact Nat.zero_le _
 | cons c t ih =>
  have h:(esc c).length≤6:=by
   unfold esc
   repeat' split
   all_goals simp
  have e:put (c :: t)=esc c++put t:=rfl;rw[e,List.length_append,List.length_cons];omega
theorem z9w:∀ l:List At,(written l).length≤6 * Fo.atB l
 | []=>Nat.zero_le _
 | a :: l=>by
  have h1:=z9w l;have h2:=j6t a.v;have e:Fo.atB (a :: l)=1 + a.n.length + a.v.length + Fo.atB l:=by simp[Fo.atB]
  rw[q7f,e];simp only [List.length_cons,List.length_append];omega
theorem z8b (l m:List Tok):bytes (l++m)=bytes l++bytes m:=List.flatMap_append ..
theorem q2l:∀ f:Fo,(bytes (flat f)).length≤16 * f.bulk:=by
 intro f
 induction f with
 | nil=>exact Nat.zero_le _
 | node n a t k r ihk ihr =>
  have e:Fo.bulk (.node n a t k r)=1 + n.length + t.length + Fo.atB a + Fo.bulk k + Fo.bulk r:=rfl;rw[e]
  by_cases hn:n=[]
  ·have e2:flat (.node n a t k r)=[⟨1,[],[],t⟩]++flat r:=by rw[flat,if_pos hn];rfl
   have h1:=j6t t;have e3:bytes [(⟨1,[],[],t⟩:Tok)]=put t:=by
    show z1s ⟨1,[],[],t⟩++[]=_;rw[List.append_nil];rfl
   rw[e2,z8b,e3,List.length_append];omega
  ·have e2:flat (.node n a t k r)=[⟨2,n,a,[]⟩]++((if z4f n=true then [] else flat k++[⟨3,n,[],[]⟩])++flat r):=by rw[flat,if_neg hn];rfl
   have h1:=z9w a;have e3:(bytes [(⟨2,n,a,[]⟩:Tok)]).length=2 + n.length + (written a).length:=by
    show (([60]++n++written a++[62])++[]).length=_;simp;omega
   have e4:(bytes [(⟨3,n,[],[]⟩:Tok)]).length=3 + n.length:=by
    show (([60,47]++n++[62])++[]).length=_;simp;omega
   rw[e2,z8b,z8b,List.length_append,List.length_append,e3]
   split
   ·have:(bytes []).length=0:=rfl
    omega
   ·rw[z8b,List.length_append,e4]
    omega
theorem q9j:∀ (f:Fo) (t:Tok),t ∈ flat f→t.text.length≤f.bulk∧∀ a ∈ t.ats,a.v.length≤f.bulk:=by
 intro f
 induction f with
 | nil=>intro t h;cases h
 | node n a t k r ihk ihr =>
  intro x h;have e:Fo.bulk (.node n a t k r)=1 + n.length + t.length + Fo.atB a + Fo.bulk k + Fo.bulk r:=rfl;rw[e];have hr:x ∈ flat r→x.text.length≤1 + n.length + t.length + Fo.atB a + Fo.bulk k + Fo.bulk r∧∀ b ∈ x.ats,b.v.length≤1 + n.length + t.length + Fo.atB a + Fo.bulk k + Fo.bulk r:=fun q=>by
   obtain⟨q1,q2⟩:=ihr x q;exact⟨by omega,fun b hb=>by have:=q2 b hb;omega⟩
  by_cases hn:n=[]
  ·rw[flat,if_pos hn] at h
   rcases List.mem_cons.1 h with q | q
   ·rw[q]
    exact⟨by simp only;omega,fun b hb=>by cases hb⟩
   ·exact hr q
  ·rw[flat,if_neg hn] at h
   rcases List.mem_cons.1 h with q | q
   ·rw[q]
    refine⟨by simp only [List.length_nil];omega,fun b hb=>?_⟩;have h9:1 + b.n.length + b.v.length≤Fo.atB a:=q0h hb;omega
   ·rcases List.mem_append.1 q with q | q
    ·split at q
     ·cases q
     ·rcases List.mem_append.1 q with q | q
      ·obtain⟨q1,q2⟩:=ihk x q
       exact⟨by omega,fun b hb=>by have:=q2 b hb;omega⟩
      ·rw[List.mem_singleton.1 q]
       exact⟨by simp only [List.length_nil];omega,fun b hb=>by cases hb⟩
    ·exact hr q
theorem q2p (base:Bs) (f:Fo):(clean base f).bulk≤3001 * f.bulk:=by
 have:=(z9l base f .nil).1;have e:Fo.bulk .nil=0:=rfl;unfold clean;omega
theorem fits (base s:Bs) (hs:s.length≤3000):Fits base s:=by
 have h1:=z8v s;have h2:=z6t (toks s);have h3:=q2p base (build (toks s));have h4:=q2l (clean base (build (toks s)));refine⟨hs,by omega,by omega,by omega,?_⟩;show (bytes (flat (clean base (build (toks s))))).length≤_;omega
end Mk
