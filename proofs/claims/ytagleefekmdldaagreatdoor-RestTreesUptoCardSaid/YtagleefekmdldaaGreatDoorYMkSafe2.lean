/- Contracts of the program's safe and Is, behind those of slices.IndexFunc and slices.ContainsFunc over nodes. Condition: at most 33554432 nodes, attributes and letters. -/
import Derived.Test.YtagleefekmdldaaGreatDoorYMkHtml
import Derived.Test.YtagleefekmdldaaGreatDoorYMkClean4
import Derived.Test.YtagleefekmdldaaGreatDoorYMkByt1
import Derived.Deep.RegionHeld3
import Derived.Test.YtagleefekmdldaaGreatDoorYMkSame
set_option linter.unusedVariables false
set_option linter.unusedSimpArgs false
set_option maxHeartbeats 4000000
set_option maxRecDepth 100000
namespace Go.Proofs.YtagleefekmdldaaGreatDoor
open Go.Proofs.Tryz Go.RowKit
def SafeC (f:Mk.Fo):Prop:=∀ (v:Value) (K:Nat→Prop) (w:World),FoV w K v f→(∀ b,K b→b < w.heap.size)→Calls prog 50 #[v] w fun e w'=>e=.returned (.bool (Mk.z88 f))∧Below w.heap.size w w'
theorem eg_safe1 (args:Array Value) (w:World):(callFunc 75 args).run prog w=.ok (.enter 75 args) w:=Z7 func75 (by kernel_rfl) rfl _ _
theorem cl_safe1 (n t:List UInt8) (a:List Mk.At) (k:Mk.Fo) (hk:SafeC k) (va vk:Value) (K:Nat→Prop) (w:World) (hva:AtsV w K va a) (hvk:FoV w K vk k) (hK:∀ b,K b→b < w.heap.size) (ha:Mk.Fo.atB a≤33554432) :
  Calls prog 75 #[z0d n va t vk] w fun e w'=>e=.returned (.bool (Mk.z2q n a k))∧Below w.heap.size w w':=by
 have hst:∀ l:List UInt8,(st l).toList=l:=fun l=>Lib.toList_data _
 obtain⟨aoa,capa,hva1,_⟩:=id hva;obtain⟨aok,capk,xsk,hvk1,_⟩:=id hvk;subst hva1;subst hvk1;have hal:=(Below.refl w.heap.size w).alloc (Lr) (.cells #[.string (st n),.slice aoa a.length capa,.string (st t),.slice aok k.len capk] 38);have PB:=Blk.new w 38 #[.string (st n),.slice aoa a.length capa,.string (st t),.slice aok k.len capk];have hatl:=Mk.z1l a;have HCF:=Ld (z14 77 #[.pointer (some ⟨w.heap.size,0,none⟩)] (fun a=>!Mk.mayB n a.n || (Mk.z9s a.n && !Mk.z07 a.v)) eg_bad a (.slice aoa a.length capa) K (w.alloc (.cells #[.string (st n),.slice aoa a.length capa,.string (st t),.slice aok k.len capk] 38)) (hva.below hK hal) (fun b q=>Nat.lt_of_lt_of_le (hK b q) hal.size) (by omega) (asks_bad w.heap.size n a _ PB.lt (PB.cell 0) (fun x hx=>by have:=Mk.atB_val hx;omega)));have HBA:Hid (a.any (fun a=>!Mk.mayB n a.n || (Mk.z9s a.n && !Mk.z07 a.v))=Mk.q5i n a):=rfl;have HBO:Hid (Mk.z2q n a k=((decide (n ≠ []) && (!Mk.z0u n || Mk.q5i n a || (decide (n=[105,109,103]) && !Mk.z1d a [115,114,99]))) || !Mk.z88 k)):=rfl;have HPB:=Ld PB;have HAL:=Ld hal;have HVA:=Ld hva;have HVK:=Ld hvk;have HK:=Ld hK;have HSK:=Ld hk;have hne:(n=[]∧n.isEmpty=true)∨(n ≠ []∧n.isEmpty=false):=by
  cases n with
  | nil=>exact .inl ⟨rfl,rfl⟩
  | cons _ _=>exact .inr ⟨by simp,rfl⟩
 have him:(n=[105,109,103]∧(n == [105,109,103])=true)∨(n ≠ [105,109,103]∧(n == [105,109,103])=false):=by
  by_cases h:n=[105,109,103]
  ·exact .inl ⟨h,beq_iff_eq.2 h⟩
  ·exact .inr ⟨h,beq_eq_false_iff_ne.2 h⟩
 have HNE:=Ld hne;have HIM:=Ld him;clear hva hvk hK hk hal PB hne him;unfold z0d;go_enter func75,ntmps75;go_wp2_with fail;refine HCF.out.mono ?_;rintro e w2 ⟨rfl,hb2⟩;rw[HBA.out];have HB2:=Ld (HAL.out.trans (hb2.mono HAL.out.size));have hP2:=Blk.below HPB.out hb2 (Blk.lt HPB.out);have HP2:=Ld hP2;have p0:w2.cell? ⟨w.heap.size,0,none⟩=some (.string (st n)):=Blk.cell hP2 0;have p3:w2.cell? ⟨w.heap.size,3,none⟩=some (.slice aok k.len capk):=Blk.cell hP2 3;clear hb2 HCF HPB hP2;have HTAIL:Hid (∀ W,Below w.heap.size w W→Calls prog 50 #[.slice aok k.len capk] W fun e w'=>e=.returned (.bool (Mk.z88 k))∧Below w.heap.size w w'):=fun W hW=>(HSK.out (.slice aok k.len capk) K W (HVK.out.below HK.out hW) (fun b q=>Nat.lt_of_lt_of_le (HK.out b q) hW.size)).mono (fun e w' ⟨h1,h2⟩=>⟨h1,hW.trans (h2.mono hW.size)⟩)
 obtain⟨bb,hbb⟩:∃ b,Mk.q5i n a=b:=⟨_,rfl⟩;obtain⟨bk,hbk⟩:∃ b,Mk.z88 k=b:=⟨_,rfl⟩;rw[hbk] at HTAIL;rw[hbb,hbk] at HBO;rw[hbb];clear hbb hbk
 rcases HNE.out with ⟨hn,he⟩ | ⟨hn,he⟩
 ·have HQ:Hid (Mk.z2q n a k = !bk):=by show _=_;rw[HBO.out,hn];rfl
  clear hn HBO;go_wp2_with fail;refine(HTAIL.out _ HB2.out).mono ?_;rintro e w3 ⟨rfl,hb3⟩;have HB3:=Ld hb3;clear hb3 HTAIL;go_wp2_with fail;go_ret;exact⟨Z8 (by rw[HQ.out]),HB3.out⟩
 ·have HQ:Hid (Mk.z2q n a k=((!Mk.z0u n || bb || (decide (n=[105,109,103]) && !Mk.z1d a [115,114,99])) || !bk)):=by show _=_;rw[HBO.out,show decide (n ≠ [])=true from decide_eq_true hn];rfl
  have HALW:=Ld (q2o n w2);obtain⟨bw,hbw⟩:∃ b,Mk.z0u n=b:=⟨_,rfl⟩;rw[hbw] at HALW HQ;clear hn hbw HBO;go_wp2_with fail;refine HALW.out.mono ?_;rintro e w3 ⟨rfl,hb3⟩;have HB3:=Ld (HB2.out.trans (hb3.mono HB2.out.size));have hP3:=Blk.below HP2.out hb3 (Blk.lt HP2.out);have q0:w3.cell? ⟨w.heap.size,0,none⟩=some (.string (st n)):=Blk.cell hP3 0;have q1:w3.cell? ⟨w.heap.size,1,none⟩=some (.slice aoa a.length capa):=Blk.cell hP3 1;have q3:w3.cell? ⟨w.heap.size,3,none⟩=some (.slice aok k.len capk):=Blk.cell hP3 3;have HP3:=Ld hP3;clear hb3 HALW hP3 HB2 HP2 p0 p3
  cases bw with
  | false =>
   have HQ2:Hid (Mk.z2q n a k=true):=by show _=_;rw[HQ.out];rfl
   clear HQ HTAIL;go_wp2_with fail;go_ret;exact⟨Z8 (by rw[HQ2.out]),HB3.out⟩
  | true =>
   cases bb with
   | true =>
    have HQ2:Hid (Mk.z2q n a k=true):=by show _=_;rw[HQ.out];rfl
    clear HQ HTAIL;go_wp2_with fail;go_ret;exact⟨Z8 (by rw[HQ2.out]),HB3.out⟩
   | false =>
    rcases HIM.out with ⟨hi,hie⟩ | ⟨hi,hie⟩
    ·have HHA:=Ld (cl_has a [115,114,99] (.slice aoa a.length capa) K w3 (HVA.out.below HK.out HB3.out) (fun b q=>Nat.lt_of_lt_of_le (HK.out b q) HB3.out.size) (by omega))
     obtain⟨bh,hbh⟩:∃ b,Mk.z1d a [115,114,99]=b:=⟨_,rfl⟩;rw[hbh] at HHA HQ;have HQ2:Hid (Mk.z2q n a k=(!bh || !bk)):=by show _=_;rw[HQ.out,show decide (n=[105,109,103])=true from decide_eq_true hi];cases bh <;> rfl
     clear HQ hi hbh;go_wp2_with fail;refine HHA.out.mono ?_;rintro e w4 ⟨rfl,hb4⟩;have HB4:=Ld (HB3.out.trans (hb4.mono HB3.out.size));have r3:w4.cell? ⟨w.heap.size,3,none⟩=some (.slice aok k.len capk):=(hb4.cell (p:=⟨w.heap.size,3,none⟩) (Blk.lt HP3.out)).trans q3;clear hb4 HHA HB3 HP3 q0 q1 q3
     cases bh with
     | false =>
      have HQ3:Hid (Mk.z2q n a k=true):=by show _=_;rw[HQ2.out];rfl
      clear HQ2 HTAIL;go_wp2_with fail;go_ret;exact⟨Z8 (by rw[HQ3.out]),HB4.out⟩
     | true =>
      have HQ3:Hid (Mk.z2q n a k = !bk):=by show _=_;rw[HQ2.out];rfl
      clear HQ2;go_wp2_with fail;refine(HTAIL.out _ HB4.out).mono ?_;rintro e w5 ⟨rfl,hb5⟩;have HB5:=Ld hb5;clear hb5 HTAIL;go_wp2_with fail;go_ret;exact⟨Z8 (by rw[HQ3.out]),HB5.out⟩
    ·have HQ3:Hid (Mk.z2q n a k = !bk):=by show _=_;rw[HQ.out,show decide (n=[105,109,103])=false from decide_eq_false hi];rfl
     clear HQ hi;go_wp2_with fail;refine(HTAIL.out _ HB3.out).mono ?_;rintro e w5 ⟨rfl,hb5⟩;have HB5:=Ld hb5;clear hb5 HTAIL q0 q1 q3 HB3 HP3;go_wp2_with fail;go_ret;exact⟨Z8 (by rw[HQ3.out]),HB5.out⟩
theorem q6w (f:Mk.Fo) (hsub:∀ k n a t kk r,f.drop k=.node n a t kk r→SafeC kk) (hb:f.bulk≤33554432) (v:Value) (K:Nat→Prop) (w:World) (hv:FoV w K v f) (hK:∀ b,K b→b < w.heap.size) :
  Calls prog 106 #[v,.func (.func 75) #[] #[]] w fun e w'=>∃ i:Int,e=.returned (.int .i64 i)∧(decide (0≤i)=Mk.z6p f)∧Below w.heap.size w w':=by
 obtain⟨g,o,cap,hv1,hlen,hat⟩:=hv.at_
 have HAT:=Ld hat
 have HSB:=Ld hsub;have eg:=eg_safe1;have hgl:=Mk.Fo.z0m f;clear hat hsub hv
 rcases hv1 with ⟨hv1,hKg⟩ | ⟨ao,hv1,hnil⟩
 ·subst hv1
  have hgm:=hK g hKg;go_enter func106,ntmps106;go_wp2_with fail
  go_loopw [8] (fun i wr=>∃ k:Nat,k≤f.len∧i=.int .i64 k∧Hid (Mk.z6p f=Mk.z6p (f.drop k))∧Hid (Below w.heap.size w wr)) (fun i _=>f.len - (intOf i).toNat)
  case atStart=>exact⟨0,Nat.zero_le _,rfl,by show _=_;rw[Mk.Fo.drop_zero],Below.refl _ _⟩
  case round =>
   obtain⟨k,hk,rfl,HA,BL⟩:=hrel
   by_cases hlt:k < f.len
   ·obtain⟨n,a,t,kk,r,hd,hd1⟩:=Mk.Fo.z1x f k hlt
    obtain⟨va,vk,c0,c1,c2,c3,hva,hvk⟩:=HAT.out k n a t kk r hd;rw[← BL.out.cell (p:=⟨g,_,none⟩) hgm] at c0 c1 c2 c3;obtain⟨aoa,capa,hva1,_⟩:=id hva;obtain⟨aok,capk,xsk,hvk1,_⟩:=id hvk;subst hva1;subst hvk1;have hdb:(f.drop k).bulk=1 + n.length + t.length + Mk.Fo.atB a + kk.bulk + r.bulk:=by rw[hd];rfl
    have hdb2:=Mk.Fo.z0s f k;have hcall:=cl_safe1 n t a kk (HSB.out k n a t kk r hd) (.slice aoa a.length capa) (.slice aok kk.len capk) K wr (hva.below hK BL.out) (hvk.below hK BL.out) (fun b q=>Nat.lt_of_lt_of_le (hK b q) BL.out.size) (by omega);have HD:Hid (Mk.z6p f=(Mk.z2q n a kk || Mk.z6p (f.drop (k + 1)))):=by show _=_;rw[HA.out,hd,hd1];rfl
    generalize Mk.z2q n a kk=bb at hcall HD;unfold z0d at hcall;have HCALL:=Ld hcall;clear hcall HAT HSB hva hvk hd hd1 hdb hdb2
    cases bb with
    | true =>
     go_wp2_with fail;refine HCALL.out.mono ?_;rintro e w1 ⟨rfl,hb1⟩;have BL1:=BL.out.trans (hb1.mono BL.out.size);go_wp2_with fail;go_ret;exact⟨k,rfl,by rw[HD.out,Bool.true_or];simp,BL1⟩
    | false =>
     go_wp2_with fail;refine HCALL.out.mono ?_;rintro e w1 ⟨rfl,hb1⟩;have BL1:=BL.out.trans (hb1.mono BL.out.size);go_wp2_with fail;go_roundw
     case rel=>exact⟨k + 1,by omega,by go_num,by show _=_;rw[HD.out,Bool.false_or],BL1⟩
     case measure=>simp[intOf];omega
   ·have hkl:k=f.len:=by omega
    have HN:Hid (Mk.z6p f=false):=by show _=_;rw[HA.out,hkl,Mk.Fo.z2v];rfl
    clear HA HAT HSB;go_wp2_with fail;go_ret;exact⟨-1,rfl,by rw[HN.out];rfl,BL.out⟩
 ·subst hnil
  subst hv1;clear HAT HSB;go_enter func106,ntmps106;go_wp2_with fail
  go_loopw [8] (fun i wr=>i=.int .i64 0∧wr=w) (fun _ _=>0)
  case atStart=>exact⟨rfl,rfl⟩
  case round =>
   obtain⟨rfl,rfl⟩:=hrel;go_wp2_with fail;go_ret;exact⟨-1,rfl,rfl,Below.refl _ _⟩
theorem cl_safe (N:Nat):∀ f:Mk.Fo,f.bulk < N→f.bulk≤33554432→SafeC f:=by
 induction N with
 | zero=>intro f hN;omega
 | succ N ih =>
  intro f hN hb v K w hv hK;have HI:=Ld (q6w f (fun k n a t kk r hd=>ih kk (by have h1:=Mk.Fo.z0s f k;rw[hd] at h1;have e:Mk.Fo.bulk (.node n a t kk r)=1 + n.length + t.length + Mk.Fo.atB a + Mk.Fo.bulk kk + Mk.Fo.bulk r:=rfl;omega) (by have h1:=Mk.Fo.z0s f k;rw[hd] at h1;have e:Mk.Fo.bulk (.node n a t kk r)=1 + n.length + t.length + Mk.Fo.atB a + Mk.Fo.bulk kk + Mk.Fo.bulk r:=rfl;omega)) hb v K w hv hK);have HCN:Hid (Calls prog 74 #[v,.func (.func 75) #[] #[]] w fun e w'=>e=.returned (.bool (Mk.z6p f))∧Below w.heap.size w w'):=by
   show Calls _ _ _ _ _;go_enter func74,ntmps74;go_wp2_with fail;refine HI.out.mono ?_;rintro e w1 ⟨i,rfl,hi,hb⟩;have HB:=Ld hb;have H2:=Ld hi;clear hb hi;go_wp2_with fail;go_ret;exact⟨Z8 H2.out,HB.out⟩
  have HSA:=Ld (Mk.q9p f);clear hv hK ih HI;go_enter func50,ntmps50;go_wp2_with fail;refine HCN.out.mono ?_;rintro e w1 ⟨rfl,hb1⟩;have HB:=Ld hb1;clear hb1 HCN;go_wp2_with fail;go_ret;exact⟨Z8 (by rw[HSA.out]),HB.out⟩
theorem cl_Is (f:Mk.Fo) (v:Value) (K:Nat→Prop) (w:World) (hf:f.bulk≤33554432) (hv:FoV w K v f) (hK:∀ b,K b→b < w.heap.size) :
  Calls prog 26 #[v] w fun e w'=>e=.returned (.tuple #[.bool (decide (Mk.z2h f=0) && Mk.z88 f),.int .i64 (Mk.z2h f)])∧Below w.heap.size w w':=by
 have HC:=Ld (q0a f v K w hf hv hK);have HV:=Ld hv;have HK:=Ld hK;obtain⟨ao,cap,xs,hv1,_⟩:=hv;subst hv1;generalize Mk.z2h f=c at HC;clear hK;go_enter func26,ntmps26;go_wp2_with fail;refine HC.out.mono ?_;rintro e w1 ⟨rfl,hb1⟩;have L1:=Ld hb1;clear HC hb1
 by_cases hc:c=0
 ·subst hc
  have HS:=Ld (cl_safe (f.bulk + 1) f (Nat.lt_succ_self _) hf (.slice ao f.len cap) K w1 (HV.out.below HK.out L1.out) (fun b q=>Nat.lt_of_lt_of_le (HK.out b q) L1.out.size));go_wp2_with fail;refine HS.out.mono ?_;rintro e w2 ⟨rfl,hb2⟩;have L2:=Ld (L1.out.trans (hb2.mono L1.out.size));clear HS hb2;go_wp2_with fail;go_ret2;exact⟨by simp,L2.out⟩
 ·have hcb:(c == 0)=false:=beq_eq_false_iff_ne.2 hc
  have HC2:=Ld hc;clear hc;go_wp2_with fail;go_ret2;exact⟨by have:=HC2.out;simp[this],L1.out⟩
end Go.Proofs.YtagleefekmdldaaGreatDoor
namespace Mk
def page:Fo:=.node [112] [] [] (.node [] [] [97] .nil (.node [98,114] [] [] .nil .nil)) (.node [117,108] [] [] (.node [108,105] [] [] (.node [] [] [98] .nil .nil) (.node [108,105] [] [] (.node [] [] [99] .nil .nil) .nil)) .nil)
end Mk
namespace Go.Proofs.YtagleefekmdldaaGreatDoor
open Go.Proofs.Tryz Go.RowKit
theorem FoV.of_blk {w:World} {g cap:Nat} {K:Nat→Prop} {f:Mk.Fo} {cs:List Value} (hb:Blk w g 38 cs.toArray) (hK:K g) (hc:Y0 w K f cs) (hl:f.len≤maxLen):FoV w K (.slice (some ⟨g,0,none⟩) f.len cap) f :=
 ⟨_,cap,cs,rfl,.inr ⟨g,0,rfl,hK,fun i v q=>by rw[Nat.zero_add];exact(Blk.cell hb i).trans (by simpa using q),fun i _=>Blk.frozen hb _⟩,hc,hl⟩
def Z9 (n t:List UInt8) (vk:Value):List Value:=[.string (st n),.slice none 0 0,.string (st t),vk]
theorem Y0.one {w:World} {K:Nat→Prop} {n t:List UInt8} {k r:Mk.Fo} {ao:Option Addr} {cap:Nat} {ys:List Value} (hk:FoV w K (.slice ao k.len cap) k) (hr:Y0 w K r ys):Y0 w K (.node n [] t k r) (Z9 n t (.slice ao k.len cap)++ys):=by
 obtain⟨ao',cap',xs,h1,h2,h3,h4⟩:=hk;injection h1 with e1 e2 e3;subst e1;exact⟨.slice none 0 0,ao,cap,xs,ys,rfl,AtsV.nil _ _,h2,h4,h3,hr⟩
theorem FoV.nil0 (w:World) (K:Nat→Prop):FoV w K (.slice none (Mk.Fo.nil).len 0) .nil:=⟨none,0,[],rfl,.inl rfl,rfl,Nat.zero_le _⟩
theorem Y0.nil0 (w:World) (K:Nat→Prop):Y0 w K .nil []:=rfl
theorem page_mem {w:World} {s:Nat} {K:Nat→Prop} (hK:∀ i,i < 5→K (s + i))
  (h0:Blk w s 38 (Z9 [] [97] (.slice none 0 0)++(Z9 [98,114] [] (.slice none 0 0)++[])).toArray)
  (h1:Blk w (s + 1) 38 (Z9 [] [98] (.slice none 0 0)++[]).toArray)
  (h2:Blk w (s + 2) 38 (Z9 [] [99] (.slice none 0 0)++[]).toArray)
  (h3:Blk w (s + 3) 38 (Z9 [108,105] [] (.slice (some ⟨s + 1,0,none⟩) 1 1)++(Z9 [108,105] [] (.slice (some ⟨s + 2,0,none⟩) 1 1)++[])).toArray)
  (h4:Blk w (s + 4) 38 (Z9 [112] [] (.slice (some ⟨s,0,none⟩) 2 2)++(Z9 [117,108] [] (.slice (some ⟨s + 3,0,none⟩) 2 2)++[])).toArray) :
  FoV w K (.slice (some ⟨s + 4,0,none⟩) 2 2) Mk.page:=by
 have m1:1≤maxLen:=by decide
 have m2:2≤maxLen:=by decide
 have f0:FoV w K (.slice (some ⟨s,0,none⟩) 2 2) (.node [] [] [97] .nil (.node [98,114] [] [] .nil .nil)):=FoV.of_blk h0 (hK 0 (by decide)) (Y0.one (k:=.nil) (FoV.nil0 w K) (Y0.one (k:=.nil) (FoV.nil0 w K) (Y0.nil0 w K))) m2;have f1:FoV w K (.slice (some ⟨s + 1,0,none⟩) 1 1) (.node [] [] [98] .nil .nil):=FoV.of_blk h1 (hK 1 (by decide)) (Y0.one (k:=.nil) (FoV.nil0 w K) (Y0.nil0 w K)) m1;have f2:FoV w K (.slice (some ⟨s + 2,0,none⟩) 1 1) (.node [] [] [99] .nil .nil):=FoV.of_blk h2 (hK 2 (by decide)) (Y0.one (k:=.nil) (FoV.nil0 w K) (Y0.nil0 w K)) m1;have f3:FoV w K (.slice (some ⟨s + 3,0,none⟩) 2 2) (.node [108,105] [] [] (.node [] [] [98] .nil .nil) (.node [108,105] [] [] (.node [] [] [99] .nil .nil) .nil)):=FoV.of_blk h3 (hK 3 (by decide)) (Y0.one (k:=.node [] [] [98] .nil .nil) f1 (Y0.one (k:=.node [] [] [99] .nil .nil) f2 (Y0.nil0 w K))) m2;exact FoV.of_blk h4 (hK 4 (by decide)) (Y0.one (k:=.node [] [] [97] .nil (.node [98,114] [] [] .nil .nil)) f0 (Y0.one (k:=.node [108,105] [] [] (.node [] [] [98] .nil .nil) (.node [108,105] [] [] (.node [] [] [99] .nil .nil) .nil)) f3 (Y0.nil0 w K))) m2
theorem z8p (w:World) :
  Calls prog 20 #[] w fun e w'=>∃ v,e=.returned v∧FoV w' (fun b=>w.heap.size≤b∧b < w'.heap.size) v Mk.page∧Below w.heap.size w w':=by
 go_enter func20,ntmps20;go_wp2_with fail;go_ret;refine⟨_,rfl,?_,?_⟩
 ·have b0:=Blk.new w 38 (Z9 [] [97] (.slice none 0 0)++(Z9 [98,114] [] (.slice none 0 0)++[])).toArray
  have b1:=Blk.new (w.alloc (.cells (Z9 [] [97] (.slice none 0 0)++(Z9 [98,114] [] (.slice none 0 0)++[])).toArray 38)) 38 (Z9 [] [98] (.slice none 0 0)++[]).toArray;have b2:=Blk.new ((w.alloc (.cells (Z9 [] [97] (.slice none 0 0)++(Z9 [98,114] [] (.slice none 0 0)++[])).toArray 38)).alloc (.cells (Z9 [] [98] (.slice none 0 0)++[]).toArray 38)) 38 (Z9 [] [99] (.slice none 0 0)++[]).toArray;have b3:=Blk.new (((w.alloc (.cells (Z9 [] [97] (.slice none 0 0)++(Z9 [98,114] [] (.slice none 0 0)++[])).toArray 38)).alloc (.cells (Z9 [] [98] (.slice none 0 0)++[]).toArray 38)).alloc (.cells (Z9 [] [99] (.slice none 0 0)++[]).toArray 38)) 38 (Z9 [108,105] [] (.slice (some ⟨w.heap.size + 1,0,none⟩) 1 1)++(Z9 [108,105] [] (.slice (some ⟨w.heap.size + 2,0,none⟩) 1 1)++[])).toArray;have b4:=Blk.new ((((w.alloc (.cells (Z9 [] [97] (.slice none 0 0)++(Z9 [98,114] [] (.slice none 0 0)++[])).toArray 38)).alloc (.cells (Z9 [] [98] (.slice none 0 0)++[]).toArray 38)).alloc (.cells (Z9 [] [99] (.slice none 0 0)++[]).toArray 38)).alloc (.cells (Z9 [108,105] [] (.slice (some ⟨w.heap.size + 1,0,none⟩) 1 1)++(Z9 [108,105] [] (.slice (some ⟨w.heap.size + 2,0,none⟩) 1 1)++[])).toArray 38)) 38 (Z9 [112] [] (.slice (some ⟨w.heap.size,0,none⟩) 2 2)++(Z9 [117,108] [] (.slice (some ⟨w.heap.size + 3,0,none⟩) 2 2)++[])).toArray;simp only [World.size_alloc] at b1 b2 b3 b4;exact page_mem (fun i hi=>⟨by omega,by simp only [World.size_alloc];omega⟩) (Blk.alloc (Blk.alloc (Blk.alloc (Blk.alloc b0 _) _) _) _) (Blk.alloc (Blk.alloc (Blk.alloc b1 _) _) _) (Blk.alloc (Blk.alloc b2 _) _) (Blk.alloc b3 _) b4
 ·exact(((((Below.refl _ w).alloc (Lr) _).alloc (by simp) _).alloc (by simp;omega) _).alloc (by simp;omega) _).alloc (by simp;omega) _
end Go.Proofs.YtagleefekmdldaaGreatDoor
namespace Mk
def base0:Bs:=[104,116,116,112,58,47,47,97,47,98]
def s0:Bs:=[60,115,101,99,116,105,111,110,62,60,112,32,111,110,99,108,105,99,107,61,120,62,97,60,115,99,114,105,112,116,62,98,60,47,115,99,114,105,112,116,62,60,97,32,104,114,101,102,61,99,62,100,60,47,97,62,60,97,32,104,114,101,102,61,39,106,97,118,97,115,99,114,105,112,116,58,101,39,62,102,60,47,97,62,60,105,109,103,62,103]
def want0:Bs:=[60,112,62,97,60,97,32,104,114,101,102,61,34,104,116,116,112,58,47,47,97,47,99,34,62,100,60,47,97,62,60,97,62,102,60,47,97,62,103,60,47,112,62]
theorem html0:html base0 s0=want0:=by decide +kernel
theorem fits0:Fits base0 s0:=⟨by decide,by decide +kernel,by decide +kernel,by decide +kernel,by rw[html0];decide⟩
def short (s:Bs):Bool:=decide (s.length < 32) && s.all fun b=>(reps.lookup b).isNone
def q9z (t:Tok):Bool:=short t.text && t.ats.all fun a=>short a.v
theorem flat0:(flat (clean base0 (build (toks s0)))).all q9z=true:=by decide +kernel
theorem z6j:z2h page=0:=by decide +kernel
theorem q3a:clean [] page=page:=by decide +kernel
theorem j5q:z88 page=true:=by decide +kernel
def script:Fo:=.node [115,99,114,105,112,116] [] [] .nil .nil
theorem q6s:z2h script=0:=by decide +kernel
theorem q8j:z88 script=false:=by decide +kernel
end Mk
namespace Go.Proofs.YtagleefekmdldaaGreatDoor
open Go.Proofs.Tryz Go.RowKit
theorem q9u {s:List UInt8} (h:Mk.short s=true):j0c s:=by
 unfold Mk.short at h;rw[Bool.and_eq_true,decide_eq_true_iff,List.all_eq_true] at h;exact q8p s h.1 (fun b hb=>Option.isNone_iff_eq_none.1 (h.2 b hb))
theorem tells0:∀ t ∈ Mk.flat (Mk.clean Mk.base0 (Mk.build (Mk.toks Mk.s0))),z7l t:=by
 intro t ht;have h:=List.all_eq_true.1 Mk.flat0 t ht;unfold Mk.q9z at h;rw[Bool.and_eq_true,List.all_eq_true] at h;exact⟨fun _=>q9u h.1,fun a ha=>q9u (h.2 a ha)⟩
theorem q4h (w:World) (hg:Gl w) :
  Calls prog 6 #[] w fun e w'=>e=.returned (.bool true)∧Below w.heap.size w w':=by
 have hlt:=hg.lt;have HH:=Ld (cl_Html Mk.base0 Mk.s0 w hg (by decide) Mk.fits0 tells0);rw[Mk.html0,show Mk.want0=[60,112,62,97,60,97,32,104,114,101,102,61,34,104,116,116,112,58,47,47,97,47,99,34,62,100,60,47,97,62,60,97,62,102,60,47,97,62,103,60,47,112,62] from rfl] at HH;go_enter func6,ntmps6;go_wp2_with fail;refine HH.out.mono ?_;rintro e w1 ⟨rfl,hb1⟩;have B1:=Ld hb1;clear HH hb1;go_wp2_with fail;refine(z8p w1).mono ?_;rintro e w2 ⟨v2,rfl,hv2,hb2⟩;have B2:=Ld (B1.out.trans (hb2.mono B1.out.size));have HT:=Ld (cl_Tree [] Mk.page v2 _ w2 (by decide) hv2 (fun b q=>q.2));clear hb2 hv2;go_wp2_with fail;refine HT.out.mono ?_;rintro e w3 ⟨v3,c,rfl,hc,_,hv3,hb3⟩;rw[Mk.z6j,if_neg (by decide),if_neg (by decide)] at hc;subst hc;have hv3:=hv3 rfl;rw[Mk.q3a] at hv3;have B3:=Ld (B2.out.trans (hb3.mono B2.out.size));have HV3:Hid (FoV w3 (fun b=>b < w3.heap.size) v3 Mk.page):=hv3.frame (fun b q=>⟨q.elim (fun q=>Nat.lt_of_lt_of_le q.2 hb3.size) (fun q=>q.2),rfl⟩);obtain⟨ao3,cap3,xs3,hv3s,_⟩:=hv3;subst hv3s;clear hb3 HT;go_wp2_with fail;refine(z8p w3).mono ?_;rintro e w4 ⟨v4,rfl,hv4,hb4⟩;have B4:=Ld (B3.out.trans (hb4.mono B3.out.size));have HI:=Ld (cl_Is Mk.page v4 _ w4 (by decide) hv4 (fun b q=>q.2));rw[Mk.z6j,Mk.j5q,show (decide ((0:Int)=0) && true)=true from rfl] at HI;have HV4:Hid (FoV w4 (fun b=>b < w4.heap.size) (.slice ao3 Mk.page.len cap3) Mk.page):=HV3.out.frame (fun b q=>⟨Nat.lt_of_lt_of_le q hb4.size,hb4.block b q⟩);clear hb4 hv4 HV3;go_wp2_with fail;refine HI.out.mono ?_;rintro e w5 ⟨rfl,hb5⟩;have B5:=Ld (B4.out.trans (hb5.mono B4.out.size));have HV5:Hid (FoV w5 (fun b=>b < w5.heap.size) (.slice ao3 Mk.page.len cap3) Mk.page):=HV4.out.frame (fun b q=>⟨Nat.lt_of_lt_of_le q hb5.size,hb5.block b q⟩);clear hb5 HI HV4;have hal:=(Below.refl w5.heap.size w5).alloc (Lr) (.cells (Z9 [115,99,114,105,112,116] [] (.slice none 0 0)++[]).toArray 38);have HS:FoV (w5.alloc (.cells (Z9 [115,99,114,105,112,116] [] (.slice none 0 0)++[]).toArray 38)) (fun b=>b=w5.heap.size) (.slice (some ⟨w5.heap.size,0,none⟩) 1 1) Mk.script:=FoV.of_blk (K:=fun b=>b=w5.heap.size) (f:=Mk.script) (Blk.new w5 38 (Z9 [115,99,114,105,112,116] [] (.slice none 0 0)++[]).toArray) rfl (Y0.one (k:=.nil) (r:=.nil) (FoV.nil0 _ _) (Y0.nil0 _ _)) (by decide);have HI:=Ld (cl_Is Mk.script _ _ _ (by decide) HS (fun b q=>by subst q;simp));rw[Mk.q6s,Mk.q8j,show (decide ((0:Int)=0) && false)=false from rfl] at HI;have HAL:=Ld hal;clear hal HS;go_wp2_with fail;refine HI.out.mono ?_;rintro e w6 ⟨rfl,hb6⟩;have L6:=Ld (HAL.out.trans (hb6.mono HAL.out.size));have B6:=Ld (B5.out.trans (L6.out.mono B5.out.size));have HV6:Hid (FoV w6 (fun b=>b < w6.heap.size) (.slice ao3 Mk.page.len cap3) Mk.page):=HV5.out.frame (fun b q=>⟨Nat.lt_of_lt_of_le q L6.out.size,L6.out.block b q⟩);clear hb6 HI HV5;have hst:∀ l:List UInt8,(st l).toList=l:=fun l=>Lib.toList_data _
 clear hv3 B5 B4 B3 B2 B1 HAL L6;go_wp2_with fail;refine(z8p w6).mono ?_;rintro e w7 ⟨v7,rfl,hv7,hb7⟩;have B7:=Ld (B6.out.trans (hb7.mono B6.out.size));have HV7:FoV w7 (fun b=>b < w7.heap.size) (.slice ao3 Mk.page.len cap3) Mk.page:=HV6.out.frame (fun b q=>⟨Nat.lt_of_lt_of_le q hb7.size,hb7.block b q⟩);have HSN:=Ld (z1k (Mk.page.bulk + 1) Mk.page (Nat.lt_succ_self _) (by decide) _ v7 _ _ w7 HV7 hv7 (fun b q=>q) (fun b q=>q.2));clear hb7 hv7 HV7 HV6 B6;go_wp2_with fail;refine HSN.out.mono ?_;rintro e w8 ⟨rfl,hb8⟩;have B8:=Ld (B7.out.trans (hb8.mono B7.out.size));clear hb8 HSN B7;go_wp2_with fail;go_ret;exact⟨rfl,B8.out⟩
end Go.Proofs.YtagleefekmdldaaGreatDoor
