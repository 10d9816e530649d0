/- The plain law of feeds: what must be in any case. No program in sight. -/
import Derived.Test.YtjonkbdldebkiaaGreatDoorVWeA
import Derived.Test.YtjonkbdldebkiaaGreatDoorVWdB
import Derived.Test.YtjonkbdldebkiaaGreatDoorVMkTok5
import Derived.Test.YtjonkbdldebkiaaGreatDoorVMkTok3
import Derived.Test.YtjonkbdldebkiaaGreatDoorVMkRep3
import Derived.Test.YtjonkbdldebkiaaGreatDoorVMkRep6
import Derived.Test.YtjonkbdldebkiaaGreatDoorVMkHtml
import Derived.Deep.RegionHeld3
set_option linter.unusedVariables false
set_option linter.unusedSimpArgs false
set_option maxHeartbeats 8000000
set_option maxRecDepth 100000
namespace Fd
def rssB:Bs:=[60,114,115,115,62,60,99,104,97,110,110,101,108,62,60,105,116,101,109,62,60,116,105,116,108,101,62,65,32,38,97,109,112,59,97,109,112,59,32,66,60,47,116,105,116,108,101,62,60,108,105,110,107,62,120,60,47,108,105,110,107,62,60,103,117,105,100,62,49,60,47,103,117,105,100,62,60,112,117,98,68,97,116,101,62,84,104,117,44,32,48,49,32,74,97,110,32,49,57,55,48,32,48,48,58,48,48,58,49,48,32,71,77,84,60,47,112,117,98,68,97,116,101,62,60,100,101,115,99,114,105,112,116,105,111,110,62,38,108,116,59,98,32,111,110,99,108,105,99,107,61,49,62,99,38,108,116,59,47,98,62,60,47,100,101,115,99,114,105,112,116,105,111,110,62,60,47,105,116,101,109,62,60,105,116,101,109,62,60,108,105,110,107,62,121,60,47,108,105,110,107,62,60,47,105,116,101,109,62,60,47,99,104,97,110,110,101,108,62,60,47,114,115,115,62]
def j3a:Bs:=[60,102,101,101,100,62,60,101,110,116,114,121,62,60,105,100,62,105,60,47,105,100,62,60,108,105,110,107,32,114,101,108,61,39,115,101,108,102,39,32,104,114,101,102,61,39,104,116,116,112,58,47,47,115,39,47,62,60,108,105,110,107,32,104,114,101,102,61,39,104,116,116,112,58,47,47,116,39,47,62,60,117,112,100,97,116,101,100,62,49,57,55,48,45,48,49,45,48,49,84,48,48,58,48,48,58,48,49,90,60,47,117,112,100,97,116,101,100,62,60,115,117,109,109,97,114,121,62,115,60,47,115,117,109,109,97,114,121,62,60,47,101,110,116,114,121,62,60,47,102,101,101,100,62]
def hB:Bs:=[104,116,116,112,58,47,47,104,47]
theorem j3c:X0 hB rssB=([⟨[49],[65,32,38,97,109,112,59,32,66],[104,116,116,112,58,47,47,104,47,120],10,[60,98,62,99,60,47,98,62]⟩,⟨[104,116,116,112,58,47,47,104,47,121],[],[104,116,116,112,58,47,47,104,47,121],0,[]⟩],0):=by decide +kernel
theorem j1a:X0 [] j3a=([⟨[105],[],[104,116,116,112,58,47,47,116],1,[115]⟩],0):=by decide +kernel
theorem j1c:X0 [] [60,120,47,62]=([],7):=by decide +kernel
theorem q6a:z03 ⟨[49],[65,32,38,97,109,112,59,32,66],[104,116,116,112,58,47,47,104,47,120],10,[60,98,62,99,60,47,98,62]⟩=0:=by decide +kernel
theorem j1g:q6e [84,117,101,44,32,50,57,32,70,101,98,32,50,48,48,48,32,49,49,58,48,48,58,48,48,32,71,77,84]=(951822000,0):=by decide +kernel
theorem j3d:webD [50,48,48,48,45,48,50,45,50,57,84,49,50,58,51,48,58,48,48,43,48,49,58,51,48]=(951822000,0):=by decide +kernel
theorem j1h:(webD [49,57,57,57,45,48,50,45,50,57,84,48,48,58,48,48,58,48,48,90]).2=3:=by decide +kernel
theorem j1b:Y5 951822000=[50,48,48,48,45,48,50,45,50,57,84,49,49,58,48,48,58,48,48,90]:=by decide +kernel
end Fd
namespace Go.Proofs.YtjonkbdldebkiaaGreatDoor
open Go.Proofs.Tryz Go.RowKit
theorem q2n (c:UInt8) (w:World) :
  Calls prog 24 #[.int .u8 c.toNat] w fun e w'=>e=.returned (.bool (Fd.z2s c))∧w'=w:=by
 have hb:(c.toNat:Int)≤255:=by have:=c.toNat_lt;omega
 go_enter func24,ntmps24;go_wp2_with fail
 all_goals (go_ret;refine⟨Z8 ?_,rfl⟩;rw[Bool.eq_iff_iff,Fd.j3v];simp;try omega)
def web0:List UInt8:=[50,48,48,48,45,48,50,45,50,57,84,49,50,58,51,48,58,48,48,43,48,49,58,51,48]
def web9:List UInt8:=[49,57,57,57,45,48,50,45,50,57,84,48,48,58,48,48,58,48,48,90]
def q1a:List UInt8:=[84,117,101,44,32,50,57,32,70,101,98,32,50,48,48,48,32,49,49,58,48,48,58,48,48,32,71,77,84]
theorem q4m (w:World) (hp:Pow w) :
  Calls prog 22 #[] w fun e w'=>e=.returned (.bool true)∧Below w.heap.size w w':=by
 have H1:=Ld (j4r web0 w);rw[show Fd.webD web0=(951822000,0) from Fd.j3d] at H1;have H2:=Ld (fun W=>j4n q1a W (by decide));rw[show Fd.q6e q1a=(951822000,0) from Fd.j1g] at H2;have H3:=Ld (fun W (hW:Below w.heap.size w W)=>q8a 951822000 (by omega) (by omega) W (hp.below hW));rw[Fd.j1b] at H3;have H4:=Ld (fun W=>j4r web9 W);rw[show (Fd.webD web9).2=3 from Fd.j1h] at H4;generalize (Fd.webD web9).1=x9 at H4;go_enter func22,ntmps22;go_wp2_with fail;refine H1.out.mono ?_;rintro e w1 ⟨rfl,hb1⟩;have B1:=Ld hb1;clear H1 hb1;go_wp2_with fail;refine(H2.out _).mono ?_;rintro e w2 ⟨rfl,hb2⟩;have B2:=Ld (B1.out.trans (hb2.mono B1.out.size));clear H2 hb2;go_wp2_with fail;refine(H3.out _ B2.out).mono ?_;rintro e w3 ⟨rfl,hb3⟩;have B3:=Ld (B2.out.trans (hb3.mono B2.out.size));clear H3 hb3;go_wp2_with fail;refine(H4.out _).mono ?_;rintro e w4 ⟨rfl,hb4⟩;have B4:=Ld (B3.out.trans (hb4.mono B3.out.size));clear H4 hb4;go_wp2_with fail;go_ret;exact⟨Z8 (by rw[show (st [50,48,48,48,45,48,50,45,50,57,84,49,49,58,48,48,58,48,48,90]).toList=_ from Lib.toList_data _];rfl),B4.out⟩
end Go.Proofs.YtjonkbdldebkiaaGreatDoor
namespace Fd
def z7l (q:Nd→Bool):Mk.Fo→Option Nd
 | .nil=>none
 | .node n a t k r=>if q ⟨n,a,t,k⟩ then some ⟨n,a,t,k⟩ else z7l q r
theorem q5t (title:Bs) (p:Nd→Bool):∀ f:Mk.Fo,z2z title p f=z7l (fun x=>decide (x.name=title) && p x) f
 | .nil=>rfl
 | .node n a t k r=>by
  unfold z2z z7l;rw[q5t title p r]
end Fd
namespace Go.Proofs.YtjonkbdldebkiaaGreatDoor
open Go.Proofs.Tryz Go.RowKit
def q3t (g:FuncId) (lb:Array Value) (q:Fd.Nd→Bool) (f:Mk.Fo) (K:Nat→Prop) (w:World):Prop :=
 ∀ w1,Below w.heap.size w w1→∀ j n a t kk r,f.drop j=.node n a t kk r→∀ va vk,AtsV w1 K va a→FoV w1 K vk kk→Calls prog g (#[z05 n va t vk]++lb) w1 fun e w'=>e=.returned (.bool (q ⟨n,a,t,kk⟩))∧Below w1.heap.size w1 w'
theorem q5a (g:FuncId) (lb:Array Value) (q:Fd.Nd→Bool) (eg:∀ args w,(callFunc g args).run prog w=.ok (.enter g args) w) (f:Mk.Fo) (v:Value) (K:Nat→Prop) (w:World) (hv:FoV w K v f) (hK:∀ b,K b→b < w.heap.size) (hf:f.bulk≤33554432) (hq:q3t g lb q f K w) :
  Calls prog 116 #[v,.func (.func g) #[] lb] w fun e w'=>Below w.heap.size w w'∧∃ i:Int,e=.returned (.int .i64 i)∧((i = -1∧Fd.z7l q f=none)∨∃ j n a t kk r,i=((j:Nat):Int)∧f.drop j=.node n a t kk r∧Fd.z7l q f=some ⟨n,a,t,kk⟩):=by
 obtain⟨b,o,cap,hv1,hlen,hat⟩:=hv.at_
 have HQ:=Ld hq;have HAT:=Ld hat
 have hfl:=Mk.Fo.z1r f;clear hq hat
 rcases hv1 with ⟨hv1,hKb⟩ | ⟨ao,hv1,hnil⟩
 ·have hb:=hK b hKb
  subst hv1;go_enter func116,ntmps116;go_wp2_with fail
  go_loopw [8] (fun i wr=>∃ j:Nat,j≤f.len∧i=.int .i64 j∧Hid (Fd.z7l q f=Fd.z7l q (f.drop j))∧Hid (Below w.heap.size w wr)) (fun i _=>f.len - (intOf i).toNat)
  case atStart=>exact⟨0,Nat.zero_le _,rfl,by show _=_;rw[Mk.Fo.drop_zero],Below.refl _ _⟩
  case round =>
   obtain⟨j,hj,rfl,HA,BL⟩:=hrel
   by_cases hlt:j < f.len
   ·obtain⟨n,a,t,kk,r,hd,hd1⟩:=Mk.Fo.z6j f j hlt
    obtain⟨va,vk,c0,c1,c2,c3,hva,hvk⟩:=HAT.out j n a t kk r hd;rw[← BL.out.cell (p:=⟨b,_,none⟩) hb] at c0 c1 c2 c3;obtain⟨aoa,capa,hva1,_⟩:=id hva;obtain⟨aok,capk,xsk,hvk1,_⟩:=id hvk;subst hva1;subst hvk1;have hcall:=HQ.out wr BL.out j n a t kk r hd _ _ (hva.below hK BL.out) (hvk.below hK BL.out);have HD:Hid (Fd.z7l q f=if q ⟨n,a,t,kk⟩ then some ⟨n,a,t,kk⟩ else Fd.z7l q (f.drop (j + 1))):=by show _=_;rw[HA.out,hd,hd1];rfl
    have HDJ:=Ld hd;generalize q ⟨n,a,t,kk⟩=bb at hcall HD;unfold z05 at hcall;have HCALL:=Ld hcall;have hji:(j:Int) < f.len:=by omega
    clear hcall HA HAT hd hd1 hva hvk
    cases bb with
    | true =>
     go_wp2_with fail;refine HCALL.out.mono ?_;rintro e w1 ⟨rfl,hb1⟩;have BL1:=Ld (BL.out.trans (hb1.mono BL.out.size));clear hb1;go_wp2_with fail;go_ret;exact⟨BL1.out,j,rfl,.inr ⟨j,n,a,t,kk,r,rfl,HDJ.out,by rw[HD.out];rfl⟩⟩
    | false =>
     go_wp2_with fail;refine HCALL.out.mono ?_;rintro e w1 ⟨rfl,hb1⟩;have BL1:=Ld (BL.out.trans (hb1.mono BL.out.size));clear hb1;go_wp2_with fail;go_roundw
     case rel=>exact⟨j + 1,by omega,by go_num,by show _=_;rw[HD.out];rfl,BL1⟩
     case measure=>simp[intOf];omega
   ·have hje:j=f.len:=by omega
    have HN:Hid (Fd.z7l q f=none):=by show _=_;rw[HA.out,hje,Mk.Fo.z4e];rfl
    have hji:¬ (j:Int) < f.len:=by omega
    clear HA HAT hje;go_wp2_with fail;go_ret;exact⟨BL.out,-1,rfl,.inl ⟨rfl,HN.out⟩⟩
 ·subst hnil
  subst hv1;clear HAT hK;go_enter func116,ntmps116;go_wp2_with fail
  go_loopw [8] (fun i wr=>i=.int .i64 0∧wr=w) (fun _ _=>0)
  case atStart=>exact⟨rfl,rfl⟩
  case round =>
   obtain⟨rfl,rfl⟩:=hrel;go_wp2_with fail;go_ret;exact⟨Below.refl _ _,-1,rfl,.inl ⟨rfl,rfl⟩⟩
end Go.Proofs.YtjonkbdldebkiaaGreatDoor
namespace Fd
open Mk
theorem z2k:∀ f:Fo,(z16 f).length≤f.bulk
 | .nil=>Lr
 | .node n a t k r=>by
  have h1:=z2k k;have h2:=z2k r;have e:Fo.bulk (.node n a t k r)=1 + n.length + t.length + Fo.atB a + Fo.bulk k + Fo.bulk r:=rfl;rw[e];unfold z16;rw[List.length_append,List.length_append];omega
theorem q90 (n:Bs) (a:List At) (t:Bs) (k r:Fo):z16 (.node n a t k r)=t++z16 k++z16 r:=rfl
def j7u (s:Bs):Bs:=(s.reverse.dropWhile z2s).reverse
theorem trimX_is (s:Bs):q7a s=j7u (V8 s):=rfl
theorem j2z (c:UInt8) (t:Bs):V8 (c :: t)=if z2s c then V8 t else c :: t:=by unfold V8;rw[List.dropWhile_cons]
theorem j3o (t:Bs) (c:UInt8):j7u (t++[c])=if z2s c then j7u t else t++[c]:=by
 unfold j7u;rw[List.reverse_append,List.reverse_singleton,List.singleton_append,List.dropWhile_cons]
 split
 ·rfl
 ·simp
end Fd
namespace Go.Proofs.YtjonkbdldebkiaaGreatDoor
open Go.Proofs.Tryz Go.RowKit
theorem fd_text (N:Nat):∀ (n:List UInt8) (a:List Mk.At) (t:List UInt8) (k:Mk.Fo),k.bulk < N→t.length + k.bulk≤33554432→∀ (va vk:Value) (K:Nat→Prop) (w:World),AtsV w K va a→FoV w K vk k→(∀ b,K b→b < w.heap.size) →
  Calls prog 174 #[z05 n va t vk] w fun e w'=>e=.returned (.string (st (t++Fd.z16 k)))∧Below w.heap.size w w':=by
 induction N with
 | zero=>intro n a t k h;omega
 | succ N ih =>
  intro n a t k hN hl va vk K w hva hvk hK;have HIH:=Ld ih;clear ih;obtain⟨g,o,cap,hv1,hlen,hat⟩:=hvk.at_
  have HAT:=Ld hat
  obtain⟨aoa,capa,hva1,_⟩:=id hva;subst hva1;have hfl:=Mk.Fo.z1r k;have htb:=Fd.z2k k;unfold z05
  rcases hv1 with ⟨hv1,hKg⟩ | ⟨ao,hv1,hnil⟩
  ·have hgl:=hK g hKg
   subst hv1;have hal:=(Below.refl w.heap.size w).alloc (Lr) (.cells #[.string (st n),.slice aoa a.length capa,.string (st t),.slice (some ⟨g,o,none⟩) k.len cap] 53);have AL:=Ld hal;have PB:=Ld (Blk.new w 53 #[.string (st n),.slice aoa a.length capa,.string (st t),.slice (some ⟨g,o,none⟩) k.len cap]);clear hal hva hvk hat
   go_enter func174,ntmps174;go_upto_region 1 with fail;generalize w.alloc (.cells #[.string (st n),.slice aoa a.length capa,.string (st t),.slice (some ⟨g,o,none⟩) k.len cap] 53)=w1 at AL PB ⊢;have p2:w1.cell? ⟨w.heap.size,2,none⟩=some (.string (st t)):=Blk.cell PB.out 2;have p3:w1.cell? ⟨w.heap.size,3,none⟩=some (.slice (some ⟨g,o,none⟩) k.len cap):=Blk.cell PB.out 3;clear PB;go_wp2_with fail;clear p2 p3
   go_loopw [3,11] (fun x i wr=>∃ (j:Nat) (cur:List UInt8),j≤k.len∧i=.int .i64 j∧x=.string (st cur)∧cur.length + (k.drop j).bulk≤33554432∧Hid (t++Fd.z16 k=cur++Fd.z16 (k.drop j))∧Hid (Below w.heap.size w wr)) (fun _ i _=>k.len - (intOf i).toNat)
   case atStart=>exact⟨0,t,Nat.zero_le _,rfl,rfl,by rw[Mk.Fo.drop_zero];exact hl,by show _=_;rw[Mk.Fo.drop_zero],AL⟩
   case round =>
    obtain⟨j,cur,hj,rfl,rfl,hcl,HA,BL⟩:=hrel
    by_cases hlt:j < k.len
    ·obtain⟨n',a',t',kk,r,hd,hd1⟩:=Mk.Fo.z6j k j hlt
     obtain⟨va',vk',c0,c1,c2,c3,hva',hvk'⟩:=HAT.out j n' a' t' kk r hd;rw[← BL.out.cell (p:=⟨g,_,none⟩) hgl] at c0 c1 c2 c3;obtain⟨aoa',capa',hva1',_⟩:=id hva';obtain⟨aok',capk',xsk',hvk1',_⟩:=id hvk';subst hva1';subst hvk1';have hdb:(k.drop j).bulk=1 + n'.length + t'.length + Mk.Fo.atB a' + kk.bulk + r.bulk:=by rw[hd];rfl
     have hdb2:=Mk.Fo.z1z k j;have htk:=Fd.z2k kk;have hal1:=(Below.refl wr.heap.size wr).alloc (Lr) (.cells #[.string (st n'),.slice aoa' a'.length capa',.string (st t'),.slice aok' kk.len capk'] 53);have BL1:=Ld (BL.out.trans (hal1.mono BL.out.size));have QB:=Ld (Blk.new wr 53 #[.string (st n'),.slice aoa' a'.length capa',.string (st t'),.slice aok' kk.len capk']);have HC:=Ld (HIH.out n' a' t' kk (by omega) (by omega) _ _ K (wr.alloc (.cells #[.string (st n'),.slice aoa' a'.length capa',.string (st t'),.slice aok' kk.len capk'] 53)) (hva'.below hK BL1.out) (hvk'.below hK BL1.out) (fun b hb=>Nat.lt_of_lt_of_le (hK b hb) BL1.out.size));have HN:Hid (t++Fd.z16 k=(cur++(t'++Fd.z16 kk))++Fd.z16 (k.drop (j + 1))):=by show _=_;rw[HA.out,hd,hd1,Fd.q90];simp only [List.append_assoc]
     have hcl2:(cur++(t'++Fd.z16 kk)).length + (k.drop (j + 1)).bulk≤33554432:=by rw[hd1,List.length_append,List.length_append];omega
     have hji:(j:Int) < k.len:=by omega
     unfold z05 at HC;clear HA hd hd1 hva' hvk' hal1;go_upto_region 5 with fail;generalize wr.alloc (.cells #[.string (st n'),.slice aoa' a'.length capa',.string (st t'),.slice aok' kk.len capk'] 53)=w2 at BL1 QB HC ⊢;have q0:w2.cell? ⟨wr.heap.size,0,none⟩=some (.string (st n')):=Blk.cell QB.out 0;have q1:w2.cell? ⟨wr.heap.size,1,none⟩=some (.slice aoa' a'.length capa'):=Blk.cell QB.out 1;have q2:w2.cell? ⟨wr.heap.size,2,none⟩=some (.string (st t')):=Blk.cell QB.out 2;have q3:w2.cell? ⟨wr.heap.size,3,none⟩=some (.slice aok' kk.len capk'):=Blk.cell QB.out 3;clear c0 c1 c2 c3;have hsum:¬ 9223372036854775807 < (st cur).size + (st (t'++Fd.z16 kk)).size:=by rw[Z4,Z4,List.length_append];omega
     go_wp2_with fail;refine HC.out.mono ?_;rintro e w3 ⟨rfl,hb3⟩;have BL3:=Ld (BL1.out.trans (hb3.mono BL1.out.size));clear hb3 HC q0 q1 q2 q3;go_wp2_with fail;rw[show st cur++st (t'++Fd.z16 kk)=st (cur++(t'++Fd.z16 kk)) from z3m (st cur) (st (t'++Fd.z16 kk))];go_roundw
     case rel=>exact⟨j + 1,_,by omega,by go_num,rfl,hcl2,HN,BL3⟩
     case measure=>simp[intOf];omega
    ·have hje:j=k.len:=by omega
     have HE:Hid (t++Fd.z16 k=cur):=by show _=_;rw[HA.out,hje,Mk.Fo.z4e];exact List.append_nil _
     have hji:¬ (j:Int) < k.len:=by omega
     clear HA hje;go_wp2_with fail;go_ret;exact⟨by (rw[HE.out]) <;> rfl,BL.out⟩
  ·subst hnil
   subst hv1;have hal:=(Below.refl w.heap.size w).alloc (Lr) (.cells #[.string (st n),.slice aoa a.length capa,.string (st t),.slice ao 0 cap] 53);have HE:Hid (t++Fd.z16 .nil=t):=List.append_nil _;clear HAT hvk hva hat
   go_enter func174,ntmps174;go_wp2_with fail
   go_loopw [3,11] (fun x i wr=>x=.string (st t)∧i=.int .i64 0∧Hid (Below w.heap.size w wr)) (fun _ _ _=>0)
   case atStart=>exact⟨rfl,rfl,hal⟩
   case round =>
    obtain⟨rfl,rfl,BL⟩:=hrel;go_wp2_with fail;go_ret;exact⟨by (rw[HE.out]) <;> rfl,BL.out⟩
theorem q64 (c:UInt8) (t:List UInt8):(st (c :: t)).extract 1 (st (c :: t)).size=st t:=by
 rw[Y1,z1o,Z4];simp
theorem q63 (t:List UInt8) (c:UInt8):(st (t++[c])).extract 0 t.length=st t:=by
 rw[Y1,z1o];simp
theorem fd_trim (s:List UInt8) (w:World) (hs:s.length≤1099511627776) :
  Calls prog 173 #[.string (st s)] w fun e w'=>e=.returned (.string (st (Fd.q7a s)))∧w'=w:=by
 have hst:∀ l:List UInt8,(st l).toList=l:=fun l=>Lib.toList_data _
 have HT:=Ld (Fd.trimX_is s);generalize Fd.q7a s=out at HT ⊢;go_enter func173,ntmps173
 go_upto_block 0 with fail
 go_cut [0] (fun x wx=>x=.string (st (Fd.V8 s))∧w=wx)
 case first =>
  as_aux_lemma =>
  go_wp2_with fail
  go_loopg [0] s.length (fun g x wr=>∃ u:List UInt8,x=.string (st u)∧u.length≤g∧u.length≤s.length∧Hid (Fd.V8 s=Fd.V8 u)∧Hid (w=wr))
  case atStart=>exact⟨s,rfl,Lr,Lr,rfl,rfl⟩
  case round =>
   obtain⟨u,rfl,hg,hul,HA,HW⟩:=hrel;have hw:=HW.out;clear HW;subst hw
   cases u with
   | nil =>
    have HE:Hid (Fd.V8 s=[]):=by show _=_;rw[HA.out];rfl
    have hst0:(st ([]:List UInt8)).toList=[]:=Lib.toList_data _;clear HA;go_wp2_with fail;go_meet
    case rel=>exact⟨by rw[HE.out],rfl⟩
   | cons c t =>
    have s1:0 < (st (c :: t)).size:=by rw[Z4];simp
    have s2:(1:Int)≤(st (c :: t)).size:=by omega
    have hget:∀ q:0 < (st (c :: t)).size,(st (c :: t))[0]'q=c:=fun _=>rfl
    have hx:=q64 c t;have HSK:=Ld (Fd.j2z c t);have HWH:=Ld (fun W=>q5k c W);obtain⟨b,hb⟩:∃ b,Fd.z2s c=b:=⟨_,rfl⟩;rw[hb] at HWH HSK;clear hb;have HX:=Ld hx;clear hx
    cases b with
    | true =>
     have hgl:t.length + 1≤gk:=by simpa using hg
     have hul2:t.length + 1≤s.length:=by simpa using hul
     clear hg hul;obtain⟨g',rfl⟩:∃ g',gk=g' + 1:=⟨gk - 1,by omega⟩;go_wp2_with fail;refine(HWH.out _).mono ?_;rintro e w1 ⟨rfl,hw1⟩;subst w1;go_wp2_with fail;rw[HX.out]
     go_roundg g'
     case measure=>omega
     case rel=>exact⟨t,rfl,by omega,by omega,by show _=_;rw[HA.out,HSK.out];rfl,rfl⟩
    | false =>
     have HE:Hid (Fd.V8 s=c :: t):=by show _=_;rw[HA.out,HSK.out];rfl
     go_wp2_with fail;refine(HWH.out _).mono ?_;rintro e w1 ⟨rfl,hw1⟩;subst w1;go_wp2_with fail;go_meet
     case rel=>exact⟨by rw[HE.out],rfl⟩
 case rest =>
  as_aux_lemma =>
  obtain⟨rfl,hw⟩:=hcut;subst hw;have hl0:(Fd.V8 s).length≤1099511627776:=Nat.le_trans (List.dropWhile_suffix Fd.z2s (l:=s)).length_le hs;generalize Fd.V8 s=v at HT hl0 ⊢
  go_upto_block 2 with fail
  go_cut [0] (fun x wx=>x=.string (st out)∧w=wx)
  case first =>
   as_aux_lemma =>
   go_wp2_with fail
   go_loopg [0] v.length (fun g x wr=>∃ u:List UInt8,x=.string (st u)∧u.length≤g∧u.length≤v.length∧Hid (out=Fd.j7u u)∧Hid (w=wr))
   case atStart=>exact⟨v,rfl,Lr,Lr,HT,rfl⟩
   case round =>
    obtain⟨u,rfl,hg,hul,HA,HW⟩:=hrel;have hw:=HW.out;clear HW;subst hw
    rcases List.eq_nil_or_concat u with h0 | ⟨t,c,h0⟩
    ·subst h0
     have HE:Hid (out=[]):=by show _=_;rw[HA.out];rfl
     have hst0:(st ([]:List UInt8)).toList=[]:=Lib.toList_data _;clear HA;go_wp2_with fail;go_meet
     case rel=>exact⟨by rw[HE.out],rfl⟩
    ·rw[List.concat_eq_append] at h0
     subst h0;have hz:(st (t++[c])).size=t.length + 1:=by rw[Z4];simp
     have s1:t.length < (st (t++[c])).size:=by omega
     have s2:(t.length:Int) < (st (t++[c])).size:=by omega
     have s3:((st (t++[c])).size:Int) - 1=t.length:=by omega
     have s4:(0:Int)≤(t.length:Int):=by omega
     have s5:(t.length:Int)≤(st (t++[c])).size:=by omega
     have hne:(t++[c] == ([]:List UInt8))=false:=by simp
     have hget:∀ q:t.length < (st (t++[c])).size,(st (t++[c]))[t.length]'q=c:=fun q=>by
      show (t++[c])[t.length]'(by simp)=c;simp
     have HX:=Ld (q63 t c);have HSK:=Ld (Fd.j3o t c);have HWH:=Ld (fun W=>q5k c W);obtain⟨b,hb⟩:∃ b,Fd.z2s c=b:=⟨_,rfl⟩;rw[hb] at HWH HSK;have hgl:t.length + 1≤gk:=by simpa using hg
     have hul2:t.length + 1≤v.length:=by simpa using hul
     clear hb hz hg hul
     cases b with
     | true =>
      obtain⟨g',rfl⟩:∃ g',gk=g' + 1:=⟨gk - 1,by omega⟩;go_wp2_with fail;refine(HWH.out _).mono ?_;rintro e w1 ⟨rfl,hw1⟩;subst w1;go_wp2_with fail;rw[HX.out]
      go_roundg g'
      case measure=>omega
      case rel=>exact⟨t,rfl,by omega,by omega,by show _=_;rw[HA.out,HSK.out];rfl,rfl⟩
     | false =>
      have HE:Hid (out=t++[c]):=by show _=_;rw[HA.out,HSK.out];rfl
      go_wp2_with fail;refine(HWH.out _).mono ?_;rintro e w1 ⟨rfl,hw1⟩;subst w1;go_wp2_with fail;go_meet
      case rel=>exact⟨by rw[HE.out],rfl⟩
  case rest =>
   as_aux_lemma =>
   obtain⟨rfl,hw⟩:=hcut;subst hw;go_wp2_with fail;go_ret;exact⟨rfl,rfl⟩
end Go.Proofs.YtjonkbdldebkiaaGreatDoor
namespace Fd
open Mk
def oneB (n:Bs) (a:List At) (t:Bs) (k:Fo):Bs:=if n=[] then Mk.put t else [60]++n++Mk.written a++(if k=.nil then [47,62] else [62]++xmlB k++[60,47]++n++[62])
theorem z6f (n:Bs) (a:List At) (t:Bs) (k r:Fo):xmlB (.node n a t k r)=oneB n a t k++xmlB r:=rfl
theorem z7x (l:List At):(Mk.written l).length≤6 * Fo.atB l:=by
 induction l with
 | nil=>exact Nat.zero_le _
 | cons a l ih =>
  rw[Mk.q7f];have:=Mk.j6t a.v;have e:Fo.atB (a :: l)=1 + a.n.length + a.v.length + Fo.atB l:=rfl;rw[e];simp only [List.length_cons,List.length_append];omega
theorem z90:∀ f:Fo,(xmlB f).length≤12 * Fo.bulk f
 | .nil=>Nat.zero_le _
 | .node n a t k r=>by
  have h1:=z90 k;have h2:=z90 r;have h3:=z7x a;have h4:=Mk.j6t t;have e:Fo.bulk (.node n a t k r)=1 + n.length + t.length + Fo.atB a + Fo.bulk k + Fo.bulk r:=rfl;rw[z6f,e,List.length_append];unfold oneB
  split
  ·omega
  ·split
   ·simp only [List.length_append,List.length_cons,List.length_nil];omega
   ·simp only [List.length_append,List.length_cons,List.length_nil];omega
end Fd
namespace Go.Proofs.YtjonkbdldebkiaaGreatDoor
open Go.Proofs.Tryz Go.RowKit
theorem xm_bytes (N:Nat):∀ (n:List UInt8) (a:List Mk.At) (t:List UInt8) (k:Mk.Fo),k.bulk < N→n.length + t.length + Mk.Fo.atB a + k.bulk≤33554432→∀ (va vk:Value) (K:Nat→Prop) (w:World),AtsV w K va a→FoV w K vk k→(∀ b,K b→b < w.heap.size) →
  Calls prog 67 #[z05 n va t vk] w fun e w'=>e=.returned (.string (st (Fd.oneB n a t k)))∧Below w.heap.size w w':=by
 induction N with
 | zero=>intro n a t k h;omega
 | succ N ih =>
  intro n a t k hN hl va vk K w hva hvk hK;have hst:∀ l:List UInt8,(st l).toList=l:=fun l=>Lib.toList_data _
  have HIH:=Ld ih;clear ih;have HO:Hid (Fd.oneB n a t k=if n=[] then Mk.put t else [60]++n++Mk.written a++(if k=.nil then [47,62] else [62]++Fd.xmlB k++[60,47]++n++[62])):=rfl;generalize Fd.oneB n a t k=out at HO ⊢;obtain⟨g,o,cap,hv1,hlen,hat⟩:=hvk.at_
  have HAT:=Ld hat
  obtain⟨aoa,capa,hva1,_⟩:=id hva;subst hva1;obtain⟨aok,capk,xsk,hvk1,_⟩:=id hvk;subst hvk1;have hfl:=Mk.Fo.z1r k;have hxl:=Fd.z90 k;have hwl:=Fd.z7x a;have HV1:=Ld hv1;have hal:=(Below.refl w.heap.size w).alloc (Lr) (.cells #[.string (st n),.slice aoa a.length capa,.string (st t),.slice aok k.len capk] 53);have AL:=Ld hal;have NB:=Ld (Blk.new w 53 #[.string (st n),.slice aoa a.length capa,.string (st t),.slice aok k.len capk]);have HTO:=Ld (fun W=>q7z t W (by omega));have HWR:Hid (∀ W,Below w.heap.size w W→Calls prog 115 #[.slice aoa a.length capa] W fun e w'=>e=.returned (.string (st (Mk.written a)))∧Below W.heap.size W w'):=fun W hW=>j3n a _ K W (hva.below hK hW) (fun b q=>Nat.lt_of_lt_of_le (hK b q) hW.size) (fun x hx=>z8u _ (by have:=Mk.q0h hx;omega)) (by omega)
  clear hal hat hva hvk hv1;unfold z05;go_enter func67,ntmps67;go_upto_region 1 with fail;obtain⟨X,hX⟩:∃ X,X=w.heap.size:=⟨_,rfl⟩;rw[← hX] at NB;rw[← hX];generalize w.alloc (.cells #[.string (st n),.slice aoa a.length capa,.string (st t),.slice aok k.len capk] 53)=w1 at AL NB ⊢;clear hX;have p0:w1.cell? ⟨X,0,none⟩=some (.string (st n)):=Blk.cell NB.out 0;have p1:w1.cell? ⟨X,1,none⟩=some (.slice aoa a.length capa):=Blk.cell NB.out 1;have p2:w1.cell? ⟨X,2,none⟩=some (.string (st t)):=Blk.cell NB.out 2
  rcases z3c n with ⟨e1,e2⟩ | ⟨e1,e2⟩
  ·as_aux_lemma =>
   rw[if_pos e1] at HO;clear e1;go_wp2_with fail;refine(HTO.out _).mono ?_;rintro e w2 ⟨rfl,hb2⟩;have B2:=Ld (AL.out.trans (hb2.mono AL.out.size));clear hb2;go_wp2_with fail;go_ret;exact⟨by (rw[HO.out]) <;> rfl,B2.out⟩
  rw[if_neg e1] at HO;clear e1;go_upto_region 3 with fail;have HW1:=Ld (HWR.out w1.drew AL.out.drew);have HSX:Hid ((w1.drew.cell? ⟨X,0,none⟩=some (.string (st n))∧w1.drew.cell? ⟨X,1,none⟩=some (.slice aoa a.length capa))∧∀ W,Below w1.heap.size w1.drew W→(W.cell? ⟨X,0,none⟩=some (.string (st n))∧W.cell? ⟨X,1,none⟩=some (.slice aoa a.length capa))) :=
   ⟨⟨Blk.cell (Blk.drew NB.out) 0,Blk.cell (Blk.drew NB.out) 1⟩,fun W hW=>⟨Blk.cell (Blk.below (Blk.drew NB.out) hW NB.out.lt) 0,Blk.cell (Blk.below (Blk.drew NB.out) hW NB.out.lt) 1⟩⟩
  have q1:¬ 9223372036854775807 < 1 + (st n).size:=by rw[Z4];omega
  have q2:¬ 9223372036854775807 < 1 + (st n).size + (st (Mk.written a)).size:=by rw[Z4,Z4];omega
  have q3:¬ 9223372036854775807 < (⟨#[60]⟩:ByteArray).size + (st n).size:=by rw[Z4];show ¬ _ < 1 + _;omega
  have q4:¬ 9223372036854775807 < ((⟨#[60]⟩:ByteArray)++st n).size + (st (Mk.written a)).size:=by rw[Z4,show (⟨#[60]⟩:ByteArray)++st n=st (60 :: n) from z3m (st [60]) (st n),Z4];simp;omega
  clear p0 p1 p2
  go_cut [3] (fun x wx=>x=.string (st ([60]++n++Mk.written a))∧Hid (Below w1.heap.size w1 wx))
  case first =>
   as_aux_lemma =>
   go_region_held3 (fun w'=>w'.cell? ⟨X,0,none⟩=some (.string (st n))∧w'.cell? ⟨X,1,none⟩=some (.slice aoa a.length capa)) (first
    | exact HSX.out.1
    | exact HSX.out.2 _ hb2) (first
    | (go_at_call 115;with_reducible refine HW1.out.mono ?_;rintro e w2 ⟨rfl,hb2⟩))
   all_goals
    go_wp2_with fail;go_meet
    case rel=>exact⟨rfl,(Below.refl _ w1).drew.trans hb2⟩
  case rest =>
  as_aux_lemma =>
  obtain⟨rfl,B12⟩:=hcut;obtain⟨w2,hw2⟩:∃ z,z=wc:=⟨_,rfl⟩;subst hw2;have B2:=Ld (AL.out.trans (B12.out.mono AL.out.size));have NB2:=Ld (Blk.below NB.out B12.out NB.out.lt);clear HW1 HSX q1 q2 q3 q4 B12 NB AL HWR HTO;have p3:w2.cell? ⟨X,3,none⟩=some (.slice aok k.len capk):=Blk.cell NB2.out 3;obtain⟨s0,hs0⟩:∃ s0,[60]++n++Mk.written a=s0:=⟨_,rfl⟩;rw[hs0] at HO ⊢;have hsl:s0.length≤1 + n.length + 6 * Mk.Fo.atB a:=by rw[← hs0];simp only [List.length_append,List.length_cons,List.length_nil];omega
  clear hs0 hwl
  by_cases hk:k=.nil
  ·as_aux_lemma =>
   rw[if_pos hk] at HO;have hkb:((k.len:Int) == 0)=true:=by rw[hk];rfl
   have q5:¬ 9223372036854775807 < (st s0).size + (⟨#[47,62]⟩:ByteArray).size:=by rw[Z4];show ¬ _ < _ + 2;omega
   have q6:¬ 9223372036854775807 < (st s0).size + 2:=by rw[Z4];omega
   have hap:st s0++(⟨#[47,62]⟩:ByteArray)=st (s0++[47,62]):=z3m (st s0) (st [47,62]);have HAP:=Ld hap;clear hk hap HAT HV1;go_wp2_with fail;go_ret;exact⟨by rw[HO.out,← HAP.out];rfl,B2.out⟩
  rw[if_neg hk] at HO;have hkb:((k.len:Int) == 0)=false:=beq_eq_false_iff_ne.2 (by have:=z3i k hk;omega)
  rcases HV1.out with ⟨hq,hKg⟩ | ⟨ao,hq,h0⟩
  case inr=>exact absurd h0 hk
  injection hq with q1 q2 q3;subst q1;have hgl:g < w.heap.size:=hK g hKg;have q5:¬ 9223372036854775807 < (st s0).size + (⟨#[62]⟩:ByteArray).size:=by rw[Z4];show ¬ _ < _ + 1;omega
  have q6:¬ 9223372036854775807 < (st s0).size + 1:=by rw[Z4];omega
  have HAP:Hid (st s0++(⟨#[62]⟩:ByteArray)=st (s0++[62])):=z3m (st s0) (st [62]);have HK:=Ld hK;clear hk q2 q3 HV1 hK;go_wp2_with fail;rw[HAP.out];clear q5 q6 p3 hkb
  go_loopw [3,30] (fun x i wr=>∃ (j:Nat) (cur:List UInt8),j≤k.len∧i=.int .i64 j∧x=.string (st cur)∧cur.length + 12 * (k.drop j).bulk≤1000000000∧Hid (s0++[62]++Fd.xmlB k=cur++Fd.xmlB (k.drop j))∧Hid (Below w.heap.size w wr)∧Hid (Blk wr X 53 #[.string (st n),.slice aoa a.length capa,.string (st t),.slice (some ⟨g,o,none⟩) k.len capk])) (fun _ i _=>k.len - (intOf i).toNat)
  case atStart=>exact⟨0,s0++[62],Nat.zero_le _,rfl,rfl,by rw[Mk.Fo.drop_zero,List.length_append,List.length_singleton];omega,by show _=_;rw[Mk.Fo.drop_zero],B2,NB2⟩
  case round =>
   obtain⟨j,cur,hj,rfl,rfl,hcl,HA,BL,NBR⟩:=hrel
   by_cases hlt:j < k.len
   ·obtain⟨n',a',t',kk,r,hd,hd1⟩:=Mk.Fo.z6j k j hlt
    obtain⟨va',vk',c0,c1,c2,c3,hva',hvk'⟩:=HAT.out j n' a' t' kk r hd;rw[← BL.out.cell (p:=⟨g,_,none⟩) hgl] at c0 c1 c2 c3;obtain⟨aoa',capa',hva1',_⟩:=id hva';obtain⟨aok',capk',xsk',hvk1',_⟩:=id hvk';subst hva1';subst hvk1';have hdb:(k.drop j).bulk=1 + n'.length + t'.length + Mk.Fo.atB a' + kk.bulk + r.bulk:=by rw[hd];rfl
    have hdb2:=Mk.Fo.z1z k j;have hone:(Fd.oneB n' a' t' kk).length≤12 * (1 + n'.length + t'.length + Mk.Fo.atB a' + kk.bulk):=by
     have:=Fd.z90 (.node n' a' t' kk .nil);rw[Fd.z6f,List.length_append] at this;have e:Mk.Fo.bulk (.node n' a' t' kk .nil)=1 + n'.length + t'.length + Mk.Fo.atB a' + kk.bulk + 0:=rfl;rw[e] at this;omega
    have hal1:=(Below.refl wr.heap.size wr).alloc (Lr) (.cells #[.string (st n'),.slice aoa' a'.length capa',.string (st t'),.slice aok' kk.len capk'] 53);have BL1:=Ld (BL.out.trans (hal1.mono BL.out.size));have NB1:=Ld (Blk.alloc NBR.out (.cells #[.string (st n'),.slice aoa' a'.length capa',.string (st t'),.slice aok' kk.len capk'] 53));have QB:=Ld (Blk.new wr 53 #[.string (st n'),.slice aoa' a'.length capa',.string (st t'),.slice aok' kk.len capk']);have HC:=Ld (HIH.out n' a' t' kk (by omega) (by omega) _ _ K (wr.alloc (.cells #[.string (st n'),.slice aoa' a'.length capa',.string (st t'),.slice aok' kk.len capk'] 53)) (hva'.below HK.out BL1.out) (hvk'.below HK.out BL1.out) (fun b hb=>Nat.lt_of_lt_of_le (HK.out b hb) BL1.out.size));have HN:Hid (s0++[62]++Fd.xmlB k=(cur++Fd.oneB n' a' t' kk)++Fd.xmlB (k.drop (j + 1))):=by show _=_;rw[HA.out,hd,hd1,Fd.z6f];simp only [List.append_assoc]
    generalize Fd.oneB n' a' t' kk=ob at HC HN hone;have hcl2:(cur++ob).length + 12 * (k.drop (j + 1)).bulk≤1000000000:=by rw[hd1,List.length_append];omega
    have hji:(j:Int) < k.len:=by omega
    unfold z05 at HC;clear HA hd hd1 hva' hvk' hal1 NBR;go_upto_region 10 with fail;generalize wr.alloc (.cells #[.string (st n'),.slice aoa' a'.length capa',.string (st t'),.slice aok' kk.len capk'] 53)=w3 at BL1 QB HC NB1 ⊢;have q0:w3.cell? ⟨wr.heap.size,0,none⟩=some (.string (st n')):=Blk.cell QB.out 0;have q1:w3.cell? ⟨wr.heap.size,1,none⟩=some (.slice aoa' a'.length capa'):=Blk.cell QB.out 1;have q2:w3.cell? ⟨wr.heap.size,2,none⟩=some (.string (st t')):=Blk.cell QB.out 2;have q3:w3.cell? ⟨wr.heap.size,3,none⟩=some (.slice aok' kk.len capk'):=Blk.cell QB.out 3;clear c0 c1 c2 c3;have hsum:¬ 9223372036854775807 < (st cur).size + (st ob).size:=by rw[Z4,Z4];omega
    go_wp2_with fail;refine HC.out.mono ?_;rintro e w4 ⟨rfl,hb4⟩;have BL4:=Ld (BL1.out.trans (hb4.mono BL1.out.size));have NB4:=Ld (Blk.below NB1.out hb4 NB1.out.lt);clear hb4 HC q0 q1 q2 q3 NB1;go_wp2_with fail;rw[show st cur++st ob=st (cur++ob) from z3m (st cur) (st ob)];go_roundw
    case rel=>exact⟨j + 1,_,by omega,by go_num,rfl,hcl2,HN,BL4,NB4⟩
    case measure=>simp[intOf];omega
   ·have hje:j=k.len:=by omega
    have HE:Hid (s0++[62]++Fd.xmlB k=cur):=by show _=_;rw[HA.out,hje,Mk.Fo.z4e];exact List.append_nil _
    have hji:¬ (j:Int) < k.len:=by omega
    have r0:wr.cell? ⟨X,0,none⟩=some (.string (st n)):=Blk.cell NBR.out 0;have hcl3:cur.length≤1000000000:=by omega
    have s1:¬ 9223372036854775807 < (st cur).size + 2:=by rw[Z4];omega
    have s2:¬ 9223372036854775807 < (st cur).size + 2 + (st n).size:=by rw[Z4,Z4];omega
    have s3:¬ 9223372036854775807 < (st cur).size + 2 + (st n).size + 1:=by rw[Z4,Z4];omega
    have HAP2:Hid (st cur++(⟨#[60,47]⟩:ByteArray)++st n++(⟨#[62]⟩:ByteArray)=st (cur++[60,47]++n++[62])):=by
     show _=_;rw[show st cur++(⟨#[60,47]⟩:ByteArray)=st (cur++[60,47]) from z3m (st cur) (st [60,47]),show st (cur++[60,47])++st n=st (cur++[60,47]++n) from z3m _ _,show st (cur++[60,47]++n)++(⟨#[62]⟩:ByteArray)=st (cur++[60,47]++n++[62]) from z3m _ (st [62])]
    have HF:Hid (out=cur++[60,47]++n++[62]):=by show _=_;rw[HO.out,← HE.out];simp only [List.append_assoc]
    clear HA hje HE HO hcl;go_wp2_with fail;go_ret;exact⟨by rw[HF.out,← HAP2.out];rfl,BL.out⟩
end Go.Proofs.YtjonkbdldebkiaaGreatDoor
namespace Fd
theorem j4f (p:Bs) (hp:p ≠ []) (l:Bs):z0c p l=if Go.Lib.index l p = -1 then none else some (l.take (Go.Lib.index l p).toNat,l.drop ((Go.Lib.index l p).toNat + p.length)):=by
 induction l with
 | nil =>
  cases p with
  | nil=>exact absurd rfl hp
  | cons _ _=>rfl
 | cons c t ih =>
  have hpre:Mg.pre p (c :: t)=p.isPrefixOf (c :: t):=by
   unfold Mg.pre;rw[Bool.eq_iff_iff,List.isPrefixOf_iff_prefix,beq_iff_eq,List.prefix_iff_eq_take];exact eq_comm
  unfold z0c Go.Lib.index;rw[hpre]
  cases h:p.isPrefixOf (c :: t) with
  | true=>simp
  | false =>
   rw[ih];have hge:=Go.Lib.index_ge t p
   by_cases h1:Go.Lib.index t p = -1
   ·simp[h1]
   ·have h2:(Go.Lib.index t p == -1)=false:=beq_eq_false_iff_ne.2 h1
    have h3:¬ (Go.Lib.index t p + 1 = -1):=by omega
    rw[h2];simp only [Bool.false_eq_true,if_false,if_neg h1,if_neg h3,Option.map_some];rw[show (Go.Lib.index t p + 1).toNat=(Go.Lib.index t p).toNat + 1 by omega,show (Go.Lib.index t p).toNat + 1 + p.length=((Go.Lib.index t p).toNat + p.length) + 1 by omega,List.drop_succ_cons,List.take_succ_cons]
end Fd
namespace Go.Proofs.YtjonkbdldebkiaaGreatDoor
open Go.Proofs.Tryz Go.RowKit
abbrev GaveX (e:Int):Ending:=.panicked [{ v:=.iface 28 (.int .i64 e),recovered:=false }]
theorem z3x (e:Int) (w:World):Calls prog 166 #[.int .i64 e] w fun x w'=>x=GaveX e∧w'=w:=by
 go_enter func166,ntmps166;go_wp2_with fail;exact⟨rfl,rfl,rfl⟩
def Xr (w:World) (R:Nat) (s:ByteArray) (k:Nat):Prop:=Blk w R 217 #[.string s,.int .i64 k]
section
variable {w w' : World} {R : Nat} {s : ByteArray} {k : Nat}
theorem Xr.c0 (h:Xr w R s k):w.cell? ⟨R,0,none⟩=some (.string s):=Blk.cell h 0
theorem Xr.c1 (h:Xr w R s k):w.cell? ⟨R,1,none⟩=some (.int .i64 k):=Blk.cell h 1
theorem Xr.fz (h:Xr w R s k) (i:Nat):w.frozen? ⟨R,i,none⟩=false:=Blk.frozen h i
theorem Xr.drewN (h:Xr w R s k) (n:Nat):Xr (w.drewN n) R s k:=Blk.drewN h n
theorem Xr.at_ (h:Xr w R s k) (j:Nat):Xr (w.setCell ⟨R,1,none⟩ (.int .i64 j)) R s j:=Blk.set_ h 1 _
theorem z5d (p:List UInt8) (h:Xr w R s k) (hk:k≤s.size) (hs:s.size≤1048576) :
  Calls prog 216 #[.pointer (some ⟨R,0,none⟩),.string (st p)] w fun e w'=>e=.returned (.bool (Mg.pre p (s.data.toList.drop k)))∧∃ n,w'=w.drewN n:=by
 have c0:=h.c0;have c1:=h.c1;have hk1:(k:Int)≤s.size:=by omega
 have hsp:=fun W=>z2w (s.extract k s.size) p W
 rw[show (s.extract k s.size).data.toList=s.data.toList.drop k from by rw[Y1,z1o,List.take_of_length_le (by rw[List.length_drop,bs_len];omega)]] at hsp;have HSP:=Ld hsp;clear hsp;go_enter func216,ntmps216;go_wp2_with fail
 go_quiet ((go_at_call 254;exact(HSP.out _).mono fun e w'' hh=>⟨hh.1,_,hh.2.symm⟩))
 go_wp2_with fail;go_ret;exact⟨rfl,_,rfl⟩
theorem j8c (p:List UInt8) (h:Xr w R s k) (hk:k≤s.size) (hs:s.size≤1048576) :
  Calls prog 213 #[.pointer (some ⟨R,0,none⟩),.string (st p)] w fun e w'=>(Mg.pre p (s.data.toList.drop k)=true∧k + p.length≤s.size∧e=.returned (.tuple #[])∧Xr w' R s (k + p.length)∧Moved R w w')∨(Mg.pre p (s.data.toList.drop k)=false∧e=GaveX 1∧∃ n,w'=w.drewN n):=by
 have HB:=Ld (z5d p h hk hs);have HX:=Ld h;clear h;obtain⟨b,hb⟩:∃ b,Mg.pre p (s.data.toList.drop k)=b:=⟨_,rfl⟩;rw[hb] at HB ⊢;have HBB:=Ld hb;clear hb
 cases b with
 | false =>
  go_enter func213,ntmps213;go_wp2_with fail;refine HB.out.mono ?_;rintro e w1 ⟨rfl,n,hw1⟩;subst hw1;go_wp2_with fail;refine(z3x 1 _).mono ?_;rintro e w2 ⟨rfl,hw2⟩;subst w2;go_wp2_with fail;exact⟨rfl,.inr ⟨(by first | rfl | trivial),rfl,n,rfl⟩⟩
 | true =>
  have hpl:k + p.length≤s.size:=by
   have h1:=HBB.out;unfold Mg.pre at h1;have h2:(s.data.toList.drop k).take p.length=p:=by simpa using h1
   have h3:=congrArg List.length h2;rw[List.length_take,List.length_drop,bs_len] at h3;omega
  have HPZ:Hid ((st p).size=p.length):=Z4 p;have hz1:(st p).size≤1048576:=by rw[HPZ.out];omega
  go_enter func213,ntmps213;go_wp2_with fail;refine HB.out.mono ?_;rintro e w1 ⟨rfl,n,hw1⟩;subst hw1;have X1:=HX.out.drewN n;have d1:=X1.c1;have g1:=X1.fz 1;have X2:=Ld X1;clear X1;go_wp2_with fail;go_end0;refine .inl ⟨(by first | rfl | trivial),hpl,rfl,?_,((Moved.refl R w).drewN n).setCell 1 _⟩;have:=X2.out.at_ (k + p.length)
  rw[show ((k:Int) + ((st p).size:Int))=((k + p.length:Nat):Int) by rw[HPZ.out];omega];exact this
theorem xr_to (p:List UInt8) (hg:Gl w) (h:Xr w R s k) (hk:k≤s.size) (hs:s.size≤1048576) (hp:p ≠ []) (hpl:p.length≤3) :
  Calls prog 251 #[.pointer (some ⟨R,0,none⟩),.string (st p)] w fun e w'=>(Fd.z0c p (s.data.toList.drop k)=none∧e=GaveX 1∧∃ n,w'=w.drewN n)∨∃ a j,Fd.z0c p (s.data.toList.drop k)=some (a,s.data.toList.drop j)∧e=.returned (.string (st a))∧k < j∧j≤s.size∧Xr w' R s j∧Moved R w w':=by
 have c0:=h.c0;have c1:=h.c1;have f1:=h.fz 1;have HX:=Ld h;have hk1:(k:Int)≤s.size:=by omega
 have HA:=Ld (Fd.j4f p hp (s.data.toList.drop k));have hd:(s.extract k s.size).data.toList=s.data.toList.drop k:=by rw[Y1,z1o,List.take_of_length_le (by rw[List.length_drop,bs_len];omega)]
 obtain⟨mm,hmm⟩:=hg.ml;have hc:=fun n=>Tryz.strings_Index (s.extract k s.size) (st p) mm (w.drewN n) (by rw[show (s.extract k s.size).size=(s.extract k s.size).data.toList.length from (bs_len _).symm,hd,List.length_drop,bs_len];omega) hmm
 rw[hd,z1o] at hc;have hge:=Lib.index_ge (s.data.toList.drop k) p;have hrm:=fun q=>Lib.index_room (s.data.toList.drop k) p q
 generalize Lib.index (s.data.toList.drop k) p=ix at hc hge HA hrm;have HC:=Ld hc;have HPZ:Hid ((st p).size=p.length):=Z4 p;have h2:=List.length_pos_iff.2 hp;have HRM:=Ld hrm;clear hc hd hmm h hrm hp
 by_cases hi:ix = -1
 ·have HE:Hid (Fd.z0c p (s.data.toList.drop k)=none):=by show _=_;rw[HA.out,if_pos hi]
  subst hi;clear HA HRM;go_enter func251,ntmps251;go_wp2_with fail
  go_quiet ((go_at_call 272;exact(HC.out _).mono fun e w'' hh=>⟨hh.1,_,hh.2⟩))
  go_wp2_with fail;refine(z3x 1 _).mono ?_;rintro e w2 ⟨rfl,hw2⟩;subst w2;go_wp2_with fail;exact⟨rfl,.inl ⟨HE.out,rfl,_,rfl⟩⟩
 ·rw[if_neg hi] at HA
  obtain⟨i,rfl⟩:∃ i:Nat,ix=i:=⟨ix.toNat,by omega⟩;rw[Int.toNat_natCast,List.drop_drop] at HA;have hil:k + i + p.length≤s.size:=by
   have h1:=HRM.out (by omega);rw[List.length_drop,bs_len] at h1;omega
  clear hi hge HRM;have hi1:(k:Int) + i≤s.size:=by omega
  have hwi:IntKind.i64.wrap ((k:Int) + i)=(k:Int) + i:=by rw[IntKind.wrap_i64];omega
  have hx:s.extract k (k + i)=st ((s.data.toList.drop k).take i):=by rw[Y1,Nat.add_sub_cancel_left]
  go_enter func251,ntmps251;go_wp2_with fail
  go_quiet ((go_at_call 272;exact(HC.out _).mono fun e w'' hh=>⟨hh.1,_,hh.2⟩))
  go_wp2_with fail
  go_quiet (fail)
  go_wp2_with fail;have e1:wrap64 ((k:Int) + wrap64 ((i:Int) + (st p).size))=((k + (i + p.length):Nat):Int):=by
   rw[HPZ.out,w64 (n:=(i:Int) + p.length) (by omega) (by omega),w64 (by omega) (by omega)];omega
  rw[e1];go_ret;exact .inr ⟨_,_,HA.out,by rw[hx];rfl,by omega,by omega,(HX.out.drewN _).at_ _,((Moved.refl R w).drewN _).setCell 1 _⟩
end
section
variable {w w' : World} {R : Nat} {s : ByteArray} {k : Nat}
theorem q0d (h:Xr w R s k) (hk:k≤s.size) (hs:s.size≤1048576) :
  Calls prog 211 #[.pointer (some ⟨R,0,none⟩)] w fun e w'=>∃ j,k≤j∧j≤s.size∧e=.returned (.int .i64 ((j:Int) - k))∧s.data.toList.drop j=Fd.V8 (s.data.toList.drop k)∧Xr w' R s j∧Moved R w w':=by
 have c1:=h.c1;have HX:=Ld h;clear h;go_enter func211,ntmps211;go_wp2_with fail;clear c1
 go_loopg [] s.size (fun g wx=>∃ j:Nat,k≤j∧j≤s.size∧s.size≤j + g∧Hid (Fd.V8 (s.data.toList.drop k)=Fd.V8 (s.data.toList.drop j))∧Hid (Xr wx R s j)∧Hid (Moved R w wx))
 case atStart=>exact⟨k,Lr,hk,by omega,rfl,HX,Moved.refl R w⟩
 case round =>
  obtain⟨j,hkj,hjs,hfu,HS,X,MV⟩:=hrel;have c0:=X.out.c0;have c1:=X.out.c1;have f1:=X.out.fz 1
  by_cases hlt:j < s.size
  ·have hj1:(j:Int) < s.size:=by omega
   have hdr:=z09 s j hlt;have HW:=Ld (fun W=>q5k s[j] W);have HSK:Hid (Fd.V8 (s.data.toList.drop j)=if Fd.z2s s[j] then Fd.V8 (s.data.toList.drop (j + 1)) else s.data.toList.drop j):=by
    show _=_;rw[hdr];unfold Fd.V8;rw[List.dropWhile_cons]
   obtain⟨g',rfl⟩:∃ g',gk=g' + 1:=⟨gk - 1,by omega⟩;obtain⟨b,hb⟩:∃ b,Fd.z2s s[j]=b:=⟨_,rfl⟩;rw[hb] at HW HSK;clear hb hdr
   cases b with
   | true =>
    go_wp2_with fail
    go_quiet ((go_at_call 226;exact Calls.quiet_of_same (HW.out _)))
    go_wp2_with fail
    go_roundg g'
    case measure=>omega
    case rel=>exact⟨j + 1,by omega,by omega,by omega,by show _=_;rw[HS.out,HSK.out];simp,by show Xr _ _ _ _;have:=(X.out.drewN nq).at_ (j + 1);simpa using this,(MV.out.drewN _).setCell 1 _⟩
   | false =>
    go_wp2_with fail
    go_quiet ((go_at_call 226;exact Calls.quiet_of_same (HW.out _)))
    go_wp2_with fail;go_ret;exact⟨j,hkj,hjs,by rfl,by rw[HS.out,HSK.out];simp,X.out.drewN _,MV.out.drewN _⟩
  ·have hj1:¬ (j:Int) < s.size:=by omega
   have hke:j=s.size:=by omega
   have HE:Hid (s.data.toList.drop j=Fd.V8 (s.data.toList.drop k)):=by
    show _=_;rw[HS.out,hke,List.drop_of_length_le (by rw[bs_len];omega)];rfl
   clear hke;go_wp2_with fail
   go_quiet (fail)
   go_wp2_with fail;go_ret;exact⟨j,hkj,hjs,by rfl,HE.out,X.out.drewN _,MV.out.drewN _⟩
end
end Go.Proofs.YtjonkbdldebkiaaGreatDoor
namespace Fd
open Mk
theorem z9f (s:Bs):(V8 s).length≤s.length:=by
 unfold V8;exact(List.dropWhile_suffix _).length_le
theorem z4z {s n r:Bs} (h:z06 s=.ok n r):r.length≤s.length:=by
 unfold z06 at h
 split at h
 ·injection h with _ h2
  rw[← h2];simp
 ·cases h
theorem z1a {p s:Bs} (h:Mg.pre p s=true):p.length≤s.length:=by
 by_cases hl:s.length < p.length
 ·rw[Mg.j6n p s hl] at h;cases h
 ·omega
theorem z1d {p s r:Bs} {u:Unit} (h:z0k p s=.ok u r):r.length + p.length=s.length:=by
 unfold z0k at h
 split at h
 ·rename_i hp
  have:=z1a hp;injection h with _ h2;rw[← h2,List.length_drop];omega
 ·cases h
theorem z5e (p:Bs) (hp:p ≠ []):∀ (s:Bs) (x:Bs × Bs),z0c p s=some x→x.2.length + x.1.length + p.length=s.length
 | [],x,h=>by rw[z0c] at h;cases h
 | c :: t,x,h=>by
  rw[z0c] at h
  split at h
  ·rename_i hq
   have:=z1a hq;injection h with h;rw[← h];show ((c :: t).drop p.length).length + ([]:Bs).length + p.length=_;rw[List.length_drop];simp only [List.length_cons,List.length_nil] at this ⊢;omega
  ·cases he:z0c p t with
   | none=>rw[he] at h;cases h
   | some y =>
    rw[he] at h;injection h with h;have:=z5e p hp t y he;rw[← h];simp only [List.length_cons];omega
theorem z9u {p s v r:Bs} (hp:p ≠ []) (h:toX p s=.ok v r):r.length + v.length + p.length=s.length:=by
 unfold toX at h
 cases he:z0c p s with
 | none=>rw[he] at h;cases h
 | some x =>
  rw[he] at h;injection h with h1 h2;have:=z5e p hp s x he;rw[← h1,← h2];exact this
theorem z3n {s r:Bs} {u:Unit} (h:z1c s=some (.ok u r)):r.length < s.length:=by
 unfold z1c at h
 split at h
 ·rename_i hp
  have:=z1a hp
  cases he:z0c [45,45,62] (s.drop 4) with
  | none=>rw[he] at h;cases h
  | some x =>
   rw[he] at h;injection h with h;injection h with _ h2;have hh:=z5e [45,45,62] (by simp) _ x he;rw[List.length_drop] at hh;rw[← h2];simp only [List.length_cons,List.length_nil] at this hh ⊢;omega
 split at h
 ·rename_i hp
  have:=z1a hp
  cases he:z0c [63,62] (s.drop 2) with
  | none=>rw[he] at h;cases h
  | some x =>
   rw[he] at h;injection h with h;injection h with _ h2;have hh:=z5e [63,62] (by simp) _ x he;rw[List.length_drop] at hh;rw[← h2];simp only [List.length_cons,List.length_nil] at this hh ⊢;omega
 ·cases h
theorem j7w {s v r:Bs} (h:z3a s=.ok v r):r.length < s.length:=by
 unfold z3a at h;simp only at h;generalize (if Mg.pre [39] s=true then (39:UInt8) else 34)=q at h
 cases hn:z0k [q] s with
 | er e=>rw[hn] at h;cases h
 | ok u r1 =>
  rw[hn] at h;simp only at h;have h1:=z1d hn
  cases ht:toX [q] r1 with
  | er e=>rw[ht] at h;cases h
  | ok v1 r2 =>
   rw[ht] at h;simp only at h;have h2:=z9u (by simp) ht;simp only [List.length_cons,List.length_nil] at h1 h2
   split at h
   ·cases h
   split at h
   ·injection h with _ h4
    rw[← h4];omega
   ·cases h
theorem q41 {s r:Bs} {a:At} (h:z4k s=.ok a r):r.length < s.length:=by
 unfold z4k at h
 cases h1:z06 s with
 | er e=>rw[h1] at h;cases h
 | ok n r1 =>
  rw[h1] at h;simp only at h;have l1:=z4z h1
  cases h2:z0k [61] (V8 r1) with
  | er e=>rw[h2] at h;cases h
  | ok u r2 =>
   rw[h2] at h;simp only at h;have l2:=z1d h2;have l3:=z9f r1;simp only [List.length_cons,List.length_nil] at l2
   cases h3:z3a (V8 r2) with
   | er e=>rw[h3] at h;cases h
   | ok v z =>
    rw[h3] at h;injection h with _ h5;have l4:=j7w h3;have l5:=z9f r2;rw[← h5];omega
theorem q5q:∀ (n:Nat) (s:Bs) (out l:List At) (r:Bs),z0o n s out=.ok l r→r.length≤s.length
 | 0,s,out,l,r,h=>by rw[z0o] at h;injection h with _ h2;rw[← h2];exact Nat.le_refl _
 | n + 1,s,out,l,r,h=>by
  rw[z0o] at h
  split at h
  ·rename_i hl
   cases hs:V8 s with
   | nil=>rw[hs] at h;injection h with _ h2;rw[← h2];exact Nat.zero_le _
   | cons c t =>
    rw[hs] at h hl;simp only at h
    split at h
    ·cases ha:z4k (c :: t) with
     | er e=>rw[ha] at h;cases h
     | ok a r1 =>
      rw[ha] at h;simp only at h;have l1:=q41 ha
      split at h
      ·cases h
      ·have:=q5q n r1 _ l r h
       omega
    ·injection h with _ h2;rw[← h2];omega
  ·injection h with _ h2;rw[← h2];exact Nat.le_refl _
theorem q0l {s r:Bs} {l:List At} (h:z2f s=.ok l r):r.length≤s.length:=q5q _ _ _ _ _ h
theorem z5g:∀ (n m:Nat) (s:Bs) (out:List At),s.length < n→s.length < m→z0o n s out=z0o m s out
 | 0,m,s,out,h,_=>by omega
 | n + 1,0,s,out,_,h=>by omega
 | n + 1,m + 1,s,out,h1,h2=>by
  rw[z0o,z0o]
  by_cases hl:(V8 s).length < s.length
  ·rw[if_pos hl,if_pos hl]
   cases hs:V8 s with
   | nil=>rfl
   | cons c t =>
    rw[hs] at hl;simp only
    split
    ·cases ha:z4k (c :: t) with
     | er e=>rfl
     | ok a r1 =>
      simp only;have l1:=q41 ha
      split
      ·rfl
      ·exact z5g n m r1 _ (by omega) (by omega)
    ·rfl
  ·rw[if_neg hl,if_neg hl]
theorem z7b:∀ (n m:Nat) (s:Bs),s.length < n→s.length < m→z6b n s=z6b m s
 | 0,m,s,h,_=>by omega
 | n + 1,0,s,_,h=>by omega
 | n + 1,m + 1,s,h1,h2=>by
  rw[z6b,z6b]
  split
  ·exact z7b n m _ (by omega) (by omega)
  ·cases ha:z1c s with
   | none=>rfl
   | some x =>
    cases x with
    | er e=>rfl
    | ok u r=>have:=z3n ha;exact z7b n m r (by omega) (by omega)
mutual
theorem q4f:∀ (n:Nat) (deep:Int) (s:Bs) (x:El) (r:Bs),z3y n deep s=.ok x r→r.length < s.length
 | 0,deep,s,x,r,h=>by rw[z3y] at h;cases h
 | n + 1,deep,s,x,r,h=>by
  rw[z3y] at h
  cases h1:z0k [60] s with
  | er e=>rw[h1] at h;cases h
  | ok u1 r1 =>
  rw[h1] at h;simp only at h;have l1:=z1d h1;simp only [List.length_cons,List.length_nil] at l1
  cases h2:z06 r1 with
  | er e=>rw[h2] at h;cases h
  | ok nm r2 =>
  rw[h2] at h;simp only at h;have l2:=z4z h2
  split at h
  ·cases h
  cases h3:z2f r2 with
  | er e=>rw[h3] at h;cases h
  | ok l r3 =>
  rw[h3] at h;simp only at h;have l3:=q0l h3
  split at h
  ·injection h with _ hr;rw[← hr,List.length_drop];omega
  cases h4:z0k [62] r3 with
  | er e=>rw[h4] at h;cases h
  | ok u4 r4 =>
  rw[h4] at h;simp only at h;have l4:=z1d h4;simp only [List.length_cons,List.length_nil] at l4
  cases h5:z1l n deep r4 .nil with
  | er e=>rw[h5] at h;cases h
  | ok k r5 =>
  rw[h5] at h;simp only at h;have l5:=z8m n deep r4 .nil k r5 h5
  cases h6:z06 r5 with
  | er e=>rw[h6] at h;cases h
  | ok nm2 r6 =>
  rw[h6] at h;simp only at h;have l6:=z4z h6
  split at h
  ·cases h
  cases h7:z0k [62] (V8 r6) with
  | er e=>rw[h7] at h;cases h
  | ok u7 r7 =>
  rw[h7] at h;injection h with _ hr;have l7:=z1d h7;have l8:=z9f r6;simp only [List.length_cons,List.length_nil] at l7;rw[← hr];omega
theorem z8m:∀ (n:Nat) (deep:Int) (s:Bs) (out k:Fo) (r:Bs),z1l n deep s out=.ok k r→r.length < s.length
 | 0,deep,s,out,k,r,h=>by rw[z1l] at h;cases h
 | n + 1,deep,s,out,k,r,h=>by
  rw[z1l] at h
  split at h
  ·rename_i hp
   have:=z1a hp;injection h with _ hr;simp only [List.length_cons,List.length_nil] at this;rw[← hr,List.length_drop];omega
  split at h
  ·rename_i hp
   have:=z1a hp;simp only [List.length_cons,List.length_nil] at this
   cases h1:toX [93,93,62] (s.drop 9) with
   | er e=>rw[h1] at h;cases h
   | ok t1 r1 =>
    rw[h1] at h;simp only at h;have l1:=z9u (by simp) h1;rw[List.length_drop] at l1;have:=z8m n deep r1 _ k r h;omega
  cases ha:z1c s with
  | some x =>
   rw[ha] at h
   cases x with
   | er e=>cases h
   | ok u r1 =>
    simp only at h;have:=z3n ha;have:=z8m n deep r1 _ k r h;omega
  | none =>
   rw[ha] at h;simp only at h
   split at h
   ·cases he:z3y n (deep + 1) s with
    | er e=>rw[he] at h;cases h
    | ok x r1 =>
     rw[he] at h;simp only at h;have:=q4f n (deep + 1) s x r1 he;have:=z8m n deep r1 _ k r h;omega
   ·cases hz:z0c [60] s with
    | none=>rw[hz] at h;cases h
    | some y =>
     rw[hz] at h;simp only at h
     split at h
     ·have:=z8m n deep _ _ k r h
      rw[List.length_drop] at this;omega
     ·cases h
end
mutual
theorem q2x:∀ (n m:Nat) (deep:Int) (s:Bs),s.length≤n→s.length≤m→z3y n deep s=z3y m deep s
 | 0,0,deep,s,_,_=>rfl
 | 0,m + 1,deep,s,h,_=>by
  have:s=[]:=List.eq_nil_of_length_eq_zero (by omega);rw[this,z3y,z3y];rfl
 | n + 1,0,deep,s,_,h=>by
  have:s=[]:=List.eq_nil_of_length_eq_zero (by omega);rw[this,z3y,z3y];rfl
 | n + 1,m + 1,deep,s,g1,g2=>by
  rw[z3y,z3y]
  cases h1:z0k [60] s with
  | er e=>rfl
  | ok u1 r1 =>
  simp only;have l1:=z1d h1;simp only [List.length_cons,List.length_nil] at l1
  cases h2:z06 r1 with
  | er e=>rfl
  | ok nm r2 =>
  simp only;have l2:=z4z h2
  split
  ·rfl
  cases h3:z2f r2 with
  | er e=>rfl
  | ok l r3 =>
  simp only;have l3:=q0l h3
  split
  ·rfl
  cases h4:z0k [62] r3 with
  | er e=>rfl
  | ok u4 r4 =>
  simp only;have l4:=z1d h4;simp only [List.length_cons,List.length_nil] at l4;rw[z3j n m deep r4 .nil (by omega) (by omega)]
theorem z3j:∀ (n m:Nat) (deep:Int) (s:Bs) (out:Fo),s.length < n→s.length < m→z1l n deep s out=z1l m deep s out
 | 0,m,deep,s,out,h,_=>by omega
 | n + 1,0,deep,s,out,_,h=>by omega
 | n + 1,m + 1,deep,s,out,g1,g2=>by
  rw[z1l,z1l]
  split
  ·rfl
  split
  ·rename_i hp
   have:=z1a hp;simp only [List.length_cons,List.length_nil] at this
   cases h1:toX [93,93,62] (s.drop 9) with
   | er e=>rfl
   | ok t1 r1 =>
    simp only;have l1:=z9u (by simp) h1;rw[List.length_drop] at l1;exact z3j n m deep r1 _ (by omega) (by omega)
  cases ha:z1c s with
  | some x =>
   cases x with
   | er e=>rfl
   | ok u r1 =>
    simp only;have:=z3n ha;exact z3j n m deep r1 _ (by omega) (by omega)
  | none =>
   simp only
   split
   ·rw[q2x n m (deep + 1) s (by omega) (by omega)]
    cases he:z3y m (deep + 1) s with
    | er e=>rfl
    | ok x r1 =>
     simp only;have:=q4f m (deep + 1) s x r1 he;exact z3j n m deep r1 _ (by omega) (by omega)
   ·rename_i hp
    cases hz:z0c [60] s with
    | none=>rfl
    | some y =>
     simp only;have hy:=z5e [60] (by simp) s y hz
     split
     ·have h0:y.1 ≠ []:=by
       intro h0
       cases s with
       | nil=>rw[z0c] at hz;cases hz
       | cons c t =>
        rw[z0c,if_neg hp] at hz
        cases he:z0c [60] t with
        | none=>rw[he] at hz;cases hz
        | some z=>rw[he] at hz;injection hz with hz;rw[← hz] at h0;cases h0
      have:0 < y.1.length:=List.length_pos_iff.2 h0;simp only [List.length_cons,List.length_nil] at hy;exact z3j n m deep _ _ (by rw[List.length_drop];omega) (by rw[List.length_drop];omega)
     ·rfl
end
def z5l (deep:Int) (s:Bs):Rs El:=z3y s.length deep s
def z0q (deep:Int) (s:Bs) (out:Fo):Rs Fo:=z1l (s.length + 1) deep s out
theorem z8g {n:Nat} {deep:Int} {s:Bs} (h:s.length≤n):z3y n deep s=z5l deep s:=q2x _ _ _ _ h (Nat.le_refl _)
theorem z6l {n:Nat} {deep:Int} {s:Bs} {out:Fo} (h:s.length < n):z1l n deep s out=z0q deep s out:=z3j _ _ _ _ _ h (Nat.lt_succ_self _)
def z1y:Bs:=[60,33,91,67,68,65,84,65,91]
theorem q87 {deep:Int} {s:Bs} {out:Fo} (h:Mg.pre [60,47] s=true):z0q deep s out=.ok out (s.drop 2):=by
 unfold z0q;rw[z1l,if_pos h]
theorem q4o {deep:Int} {s:Bs} {out:Fo} {e:Int} (h:Mg.pre [60,47] s=false) (h2:Mg.pre z1y s=true) (h3:toX [93,93,62] (s.drop 9)=.er e):z0q deep s out=.er e:=by
 unfold z0q;rw[z1l,if_neg (by rw[h];simp),if_pos (show Mg.pre [60,33,91,67,68,65,84,65,91] s=true from h2),h3]
theorem j2g {deep:Int} {s t r:Bs} {out:Fo} (h:Mg.pre [60,47] s=false) (h2:Mg.pre z1y s=true) (h3:toX [93,93,62] (s.drop 9)=.ok t r):z0q deep s out=z0q deep r (z9i out t):=by
 have l1:=z9u (by simp) h3;have l2:=z1a h2;unfold z1y at l2;simp only [List.length_drop,List.length_cons,List.length_nil] at l1 l2;show z1l (s.length + 1) deep s out=_;rw[z1l,if_neg (by rw[h];simp),if_pos (show Mg.pre [60,33,91,67,68,65,84,65,91] s=true from h2),h3];exact z6l (by omega)
theorem q25 {deep:Int} {s:Bs} {out:Fo} {e:Int} (h:Mg.pre [60,47] s=false) (h2:Mg.pre z1y s=false) (h3:z1c s=some (.er e)):z0q deep s out=.er e:=by
 have h2':¬ Mg.pre [60,33,91,67,68,65,84,65,91] s=true:=by intro q;rw[show Mg.pre z1y s=true from q] at h2;cases h2
 unfold z0q;rw[z1l,if_neg (by rw[h];simp),if_neg h2',h3]
theorem q86 {deep:Int} {s r:Bs} {u:Unit} {out:Fo} (h:Mg.pre [60,47] s=false) (h2:Mg.pre z1y s=false) (h3:z1c s=some (.ok u r)):z0q deep s out=z0q deep r out:=by
 have h2':¬ Mg.pre [60,33,91,67,68,65,84,65,91] s=true:=by intro q;rw[show Mg.pre z1y s=true from q] at h2;cases h2
 have l1:=z3n h3;show z1l (s.length + 1) deep s out=_;rw[z1l,if_neg (by rw[h];simp),if_neg h2',h3];exact z6l (by omega)
theorem q4p {deep:Int} {s:Bs} {out:Fo} {e:Int} (h:Mg.pre [60,47] s=false) (h2:Mg.pre z1y s=false) (h3:z1c s=none) (h4:Mg.pre [60] s=true) (h5:z5l (deep + 1) s=.er e):z0q deep s out=.er e:=by
 have h2':¬ Mg.pre [60,33,91,67,68,65,84,65,91] s=true:=by intro q;rw[show Mg.pre z1y s=true from q] at h2;cases h2
 unfold z0q;rw[z1l,if_neg (by rw[h];simp),if_neg h2',h3];simp only;rw[if_pos h4,z8g (Nat.le_refl _),h5]
theorem j2h {deep:Int} {s r:Bs} {x:El} {out:Fo} (h:Mg.pre [60,47] s=false) (h2:Mg.pre z1y s=false) (h3:z1c s=none) (h4:Mg.pre [60] s=true) (h5:z5l (deep + 1) s=.ok x r):z0q deep s out=z0q deep r (out.app (.node x.name x.ats [] x.kids .nil)):=by
 have h2':¬ Mg.pre [60,33,91,67,68,65,84,65,91] s=true:=by intro q;rw[show Mg.pre z1y s=true from q] at h2;cases h2
 have l1:=q4f _ _ _ _ _ h5;show z1l (s.length + 1) deep s out=_;rw[z1l,if_neg (by rw[h];simp),if_neg h2',h3];simp only;rw[if_pos h4,z8g (Nat.le_refl _),h5];exact z6l (by omega)
theorem q4r {deep:Int} {s:Bs} {out:Fo} (h:Mg.pre [60,47] s=false) (h2:Mg.pre z1y s=false) (h3:z1c s=none) (h4:Mg.pre [60] s=false) (h5:z0c [60] s=none):z0q deep s out=.er 1:=by
 have h2':¬ Mg.pre [60,33,91,67,68,65,84,65,91] s=true:=by intro q;rw[show Mg.pre z1y s=true from q] at h2;cases h2
 unfold z0q;rw[z1l,if_neg (by rw[h];simp),if_neg h2',h3];simp only;rw[if_neg (by rw[h4];simp),h5]
theorem q4q {deep:Int} {s:Bs} {out:Fo} {y:Bs × Bs} (h:Mg.pre [60,47] s=false) (h2:Mg.pre z1y s=false) (h3:z1c s=none) (h4:Mg.pre [60] s=false) (h5:z0c [60] s=some y) (h6:(Mk.take y.1).2=false):z0q deep s out=.er 1:=by
 have h2':¬ Mg.pre [60,33,91,67,68,65,84,65,91] s=true:=by intro q;rw[show Mg.pre z1y s=true from q] at h2;cases h2
 unfold z0q;rw[z1l,if_neg (by rw[h];simp),if_neg h2',h3];simp only;rw[if_neg (by rw[h4];simp),h5];simp only;rw[if_neg (by rw[h6];simp)]
theorem q3y {s:Bs} {y:Bs × Bs} (hp:Mg.pre [60] s=false) (hz:z0c [60] s=some y):y.1 ≠ []:=by
 intro h0
 cases s with
 | nil=>rw[z0c] at hz;cases hz
 | cons c t =>
  rw[z0c,if_neg (by rw[hp];simp)] at hz
  cases he:z0c [60] t with
  | none=>rw[he] at hz;cases hz
  | some z=>rw[he] at hz;injection hz with hz;rw[← hz] at h0;cases h0
theorem j2i {deep:Int} {s:Bs} {out:Fo} {y:Bs × Bs} (h:Mg.pre [60,47] s=false) (h2:Mg.pre z1y s=false) (h3:z1c s=none) (h4:Mg.pre [60] s=false) (h5:z0c [60] s=some y) (h6:(Mk.take y.1).2=true):z0q deep s out=z0q deep (s.drop y.1.length) (z9i out (Mk.take y.1).1):=by
 have h2':¬ Mg.pre [60,33,91,67,68,65,84,65,91] s=true:=by intro q;rw[show Mg.pre z1y s=true from q] at h2;cases h2
 have h0:=List.length_pos_iff.2 (q3y h4 h5);have hy:=z5e [60] (by simp) s y h5;simp only [List.length_cons,List.length_nil] at hy;show z1l (s.length + 1) deep s out=_;rw[z1l,if_neg (by rw[h];simp),if_neg h2',h3];simp only;rw[if_neg (by rw[h4];simp),h5];simp only;rw[if_pos h6];exact z6l (by rw[List.length_drop];omega)
theorem q08 (deep:Int) (s:Bs):z5l deep s =
  match z0k [60] s with
  | .er e=>.er e
  | .ok _ r =>
   match z06 r with
   | .er e=>.er e
   | .ok nm u =>
    if 8 < deep then .er 2
    else match z2f u with
     | .er e=>.er e
     | .ok l z =>
      if Mg.pre [47,62] z then .ok ⟨nm,l,.nil⟩ (z.drop 2)
      else match z0k [62] z with
       | .er e=>.er e
       | .ok _ y =>
        match z0q deep y .nil with
        | .er e=>.er e
        | .ok k x =>
         match z06 x with
         | .er e=>.er e
         | .ok nm2 v=>if nm2 ≠ nm then .er 4 else
          match z0k [62] (V8 v) with
          | .er e=>.er e
          | .ok _ o=>.ok ⟨nm,l,k⟩ o:=by
 rw[← z8g (Nat.le_succ s.length),z3y]
 cases h1:z0k [60] s with
 | er e=>rfl
 | ok u1 r1 =>
 simp only;have l1:=z1d h1;simp only [List.length_cons,List.length_nil] at l1
 cases h2:z06 r1 with
 | er e=>rfl
 | ok nm r2 =>
 simp only;have l2:=z4z h2
 split
 ·rfl
 cases h3:z2f r2 with
 | er e=>rfl
 | ok l r3 =>
 simp only;have l3:=q0l h3
 split
 ·rfl
 cases h4:z0k [62] r3 with
 | er e=>rfl
 | ok u4 r4 =>
 simp only;have l4:=z1d h4;simp only [List.length_cons,List.length_nil] at l4;rw[z6l (show r4.length < s.length by omega)];rfl
theorem j7z (s:Bs):xmlR s =
  match z3u s with
  | .er e=>(⟨[],[],.nil⟩,e)
  | .ok _ r =>
   match z5l 1 r with
   | .er e=>(⟨[],[],.nil⟩,e)
   | .ok x u =>
    match z3u u with
    | .er e=>(⟨[],[],.nil⟩,e)
    | .ok _ v=>if v=[] then (x,0) else (⟨[],[],.nil⟩,1):=by
 unfold xmlR
 cases h1:z3u s with
 | er e=>rfl
 | ok u r=>simp only;rw[z8g (Nat.le_succ r.length)];rfl
theorem q8c {s:Bs} (h:(V8 s).length < s.length):z3u s=z3u (V8 s):=by
 show z6b (s.length + 1) s=_;rw[z6b,if_pos h];exact z7b _ _ _ (by omega) (by omega)
theorem j6f {s:Bs} (h:¬ (V8 s).length < s.length) (h2:z1c s=none):z3u s=.ok () s:=by
 show z6b (s.length + 1) s=_;rw[z6b,if_neg h,h2]
theorem miscX_er {s:Bs} {e:Int} (h:¬ (V8 s).length < s.length) (h2:z1c s=some (.er e)):z3u s=.er e:=by
 show z6b (s.length + 1) s=_;rw[z6b,if_neg h,h2]
theorem q8b {s r:Bs} {u:Unit} (h:¬ (V8 s).length < s.length) (h2:z1c s=some (.ok u r)):z3u s=z3u r:=by
 have l1:=z3n h2;show z6b (s.length + 1) s=_;rw[z6b,if_neg h,h2];exact z7b _ _ _ (by omega) (by omega)
def z4b (s:Bs) (out:List At):Rs (List At):=z0o (s.length + 1) s out
theorem j4i {s:Bs} {out:List At} (h:¬ (V8 s).length < s.length):z4b s out=.ok out s:=by
 unfold z4b;rw[z0o,if_neg h]
theorem j0z {s:Bs} {out:List At} (h:(V8 s).length < s.length) (h2:V8 s=[]):z4b s out=.ok out []:=by
 unfold z4b;rw[z0o,if_pos h,h2]
theorem j0y {s t:Bs} {c:UInt8} {out:List At} (h:(V8 s).length < s.length) (h2:V8 s=c :: t) (h3:z2d true c=false):z4b s out=.ok out (c :: t):=by
 unfold z4b;rw[z0o,if_pos h,h2];simp only;rw[if_neg (by rw[h3];simp)]
theorem j4h {s t:Bs} {c:UInt8} {e:Int} {out:List At} (h:(V8 s).length < s.length) (h2:V8 s=c :: t) (h3:z2d true c=true) (h4:z4k (c :: t)=.er e):z4b s out=.er e:=by
 unfold z4b;rw[z0o,if_pos h,h2];simp only;rw[if_pos h3,h4]
theorem j0x {s t r:Bs} {c:UInt8} {a:At} {out:List At} (h:(V8 s).length < s.length) (h2:V8 s=c :: t) (h3:z2d true c=true) (h4:z4k (c :: t)=.ok a r) (h5:z14 z0b [] (out++[a]) ≠ 0):z4b s out=.er 6:=by
 unfold z4b;rw[z0o,if_pos h,h2];simp only;rw[if_pos h3,h4];simp only;rw[if_pos h5]
theorem q7u {s t r:Bs} {c:UInt8} {a:At} {out:List At} (h:(V8 s).length < s.length) (h2:V8 s=c :: t) (h3:z2d true c=true) (h4:z4k (c :: t)=.ok a r) (h5:z14 z0b [] (out++[a])=0):z4b s out=z4b r (out++[a]):=by
 have l1:=q41 h4;rw[h2] at h;show z0o (s.length + 1) s out=_;rw[z0o,if_pos (by rw[h2];exact h),h2];simp only;rw[if_pos h3,h4];simp only;rw[if_neg (by rw[h5];simp)];exact z5g _ _ _ _ (by omega) (by omega)
end Fd
namespace Fd
theorem aside_is (s:Bs):z1c s=if Mg.pre [60,33,45,45] s then some (match z0c [45,45,62] (s.drop 4) with | none=>.er 1 | some x=>.ok () x.2) else if Mg.pre [60,63] s then some (match z0c [63,62] (s.drop 2) with | none=>.er 1 | some x=>.ok () x.2) else none:=rfl
end Fd
namespace Go.Proofs.YtjonkbdldebkiaaGreatDoor
open Go.Proofs.Tryz Go.RowKit
section
variable {w w' : World} {R : Nat} {s : ByteArray} {k : Nat}
theorem Moved.blk {N:Nat} {T:TypeId} {cs:Array Value} {a b:World} (h:Moved R a b) (hb:Blk a N T cs) (hN:N ≠ R):Blk b N T cs:=(h.block N hN).trans hb
theorem j0k (hg:Gl w) (hR:4 < R) (h:Xr w R s k) (hk:k≤s.size) (hs:s.size≤1048576) :
  Calls prog 212 #[.pointer (some ⟨R,0,none⟩)] w fun e w' =>
   (Fd.z1c (s.data.toList.drop k)=none∧e=.returned (.bool false)∧Xr w' R s k∧Moved R w w')∨(Fd.z1c (s.data.toList.drop k)=some (.er 1)∧e=GaveX 1∧Moved R w w') ∨
   ∃ j,Fd.z1c (s.data.toList.drop k)=some (.ok () (s.data.toList.drop j))∧e=.returned (.bool true)∧k < j∧j≤s.size∧Xr w' R s j∧Moved R w w':=by
 have HA:=Ld (Fd.aside_is (s.data.toList.drop k));rw[List.drop_drop,List.drop_drop] at HA;have HB1:=Ld (z5d [60,33,45,45] h hk hs);have HX:=Ld h;have HG:=Ld hg;clear hg h;generalize Fd.z1c (s.data.toList.drop k)=out at HA ⊢;obtain⟨b1,hb1⟩:∃ b,Mg.pre [60,33,45,45] (s.data.toList.drop k)=b:=⟨_,rfl⟩;rw[hb1] at HB1 HA;have HP1:=Ld hb1;clear hb1;have HROOM:Hid (∀ p:List UInt8,Mg.pre p (s.data.toList.drop k)=true→k + p.length≤s.size):=by
  intro p hp;have h3:=Fd.z1a hp;rw[List.length_drop,bs_len] at h3
  by_cases q:p.length=0
  ·omega
  ·omega
 cases b1 with
 | true =>
  rw[if_pos rfl] at HA;have h4:k + 4≤s.size:=HROOM.out _ HP1.out;go_enter func212,ntmps212;go_wp2_with fail;refine HB1.out.mono ?_;rintro e w1 ⟨rfl,n,hw1⟩;subst hw1;have X1:=HX.out.drewN n;have d1:=X1.c1;have g1:=X1.fz 1;have X2:Hid (Xr ((w.drewN n).setCell ⟨R,1,none⟩ (.int .i64 ((k:Int) + 4))) R s (k + 4)):=by show Xr _ _ _ _;have:=X1.at_ (k + 4);simpa using this
  have MV2:=Ld (((Moved.refl R w).drewN n).setCell 1 (.int .i64 ((k:Int) + 4)));have GL2:=Ld (HG.out.below (MV2.out.below (Lr)) hR);clear X1;go_upto_region 4 with fail;generalize ((w.drewN n).setCell ⟨R,1,none⟩ (.int .i64 ((k:Int) + 4)))=w2 at X2 MV2 GL2 ⊢;have HT:=Ld (xr_to [45,45,62] GL2.out X2.out h4 hs (by decide) (by decide));go_wp2_with fail;refine HT.out.mono ?_;rintro e w3 (⟨ha,rfl,n3,hw3⟩ | ⟨a,j,ha,rfl,hkj,hjs,hx,hm⟩)
  ·subst hw3
   rw[ha] at HA;clear ha;go_wp2_with fail;exact⟨rfl,.inr (.inl ⟨HA.out,rfl,MV2.out.drewN _⟩)⟩
  ·rw[ha] at HA
   have R1:=Ld hx;have R2:=Ld (MV2.out.trans hm);clear ha hx hm;go_wp2_with fail;go_ret;exact .inr (.inr ⟨j,HA.out,by rfl,by omega,hjs,R1.out,R2.out⟩)
 | false =>
  rw[if_neg (by decide)] at HA;go_enter func212,ntmps212;go_wp2_with fail;refine HB1.out.mono ?_;rintro e w1 ⟨rfl,n,hw1⟩;subst hw1;have X1:=Ld (HX.out.drewN n);have HB2:=Ld (z5d [60,63] X1.out hk hs);obtain⟨b2,hb2⟩:∃ b,Mg.pre [60,63] (s.data.toList.drop k)=b:=⟨_,rfl⟩;rw[hb2] at HB2 HA;have HP2:=Ld hb2;clear hb2 HB1;go_wp2_with fail;refine HB2.out.mono ?_;rintro e w1 ⟨rfl,n2,hw1⟩;subst hw1
  cases b2 with
  | true =>
   rw[if_pos rfl] at HA;have h4:k + 2≤s.size:=HROOM.out _ HP2.out;have X1:=HX.out.drewN (n + n2);have d1:=X1.c1;have g1:=X1.fz 1;have X2:Hid (Xr ((w.drewN (n + n2)).setCell ⟨R,1,none⟩ (.int .i64 ((k:Int) + 2))) R s (k + 2)):=by show Xr _ _ _ _;have:=X1.at_ (k + 2);simpa using this
   have MV2:=Ld (((Moved.refl R w).drewN (n + n2)).setCell 1 (.int .i64 ((k:Int) + 2)));have GL2:=Ld (HG.out.below (MV2.out.below (Lr)) hR);clear X1;go_upto_region 7 with fail;generalize ((w.drewN (n + n2)).setCell ⟨R,1,none⟩ (.int .i64 ((k:Int) + 2)))=w2 at X2 MV2 GL2 ⊢;have HT:=Ld (xr_to [63,62] GL2.out X2.out h4 hs (by decide) (by decide));go_wp2_with fail;refine HT.out.mono ?_;rintro e w3 (⟨ha,rfl,n3,hw3⟩ | ⟨a,j,ha,rfl,hkj,hjs,hx,hm⟩)
   ·subst hw3
    rw[ha] at HA;clear ha;go_wp2_with fail;exact⟨rfl,.inr (.inl ⟨HA.out,rfl,MV2.out.drewN _⟩)⟩
   ·rw[ha] at HA
    have R1:=Ld hx;have R2:=Ld (MV2.out.trans hm);clear ha hx hm;go_wp2_with fail;go_ret;exact .inr (.inr ⟨j,HA.out,by rfl,by omega,hjs,R1.out,R2.out⟩)
  | false =>
   rw[if_neg (by decide)] at HA;go_wp2_with fail;go_ret;exact .inl ⟨HA.out,by rfl,HX.out.drewN _,(Moved.refl R w).drewN _⟩
theorem j8b (hg:Gl w) (hR:4 < R) (h:Xr w R s k) (hk:k≤s.size) (hs:s.size≤1048576) :
  Calls prog 164 #[.pointer (some ⟨R,0,none⟩)] w fun e w' =>
   (Fd.z3u (s.data.toList.drop k)=.er 1∧e=GaveX 1∧Moved R w w')∨∃ j,Fd.z3u (s.data.toList.drop k)=.ok () (s.data.toList.drop j)∧e=.returned (.tuple #[])∧k≤j∧j≤s.size∧Xr w' R s j∧Moved R w w':=by
 have HX:=Ld h;have HG:=Ld hg;clear hg h;go_enter func164,ntmps164;go_wp2_with fail
 go_loopg [] s.size (fun g wx=>∃ j:Nat,k≤j∧j≤s.size∧s.size≤j + g∧Hid (Fd.z3u (s.data.toList.drop k)=Fd.z3u (s.data.toList.drop j))∧Hid (Xr wx R s j)∧Hid (Moved R w wx))
 case atStart=>exact⟨k,Lr,hk,by omega,rfl,HX,Moved.refl R w⟩
 case round =>
  obtain⟨j,hkj,hjs,hfu,HM,X,MV⟩:=hrel;have HW:=Ld (q0d X.out hjs hs);go_wp2_with fail;refine HW.out.mono ?_;rintro e w1 ⟨j1,hj1,hjs1,rfl,hsk,hx1,hm1⟩;have X1:=Ld hx1;have MV1:=Ld (MV.out.trans hm1);have HSK:=Ld hsk;clear hx1 hm1 hsk HW;have hlen1:(Fd.V8 (s.data.toList.drop j)).length=s.size - j1:=by rw[← HSK.out,List.length_drop,bs_len]
  have hlen0:(s.data.toList.drop j).length=s.size - j:=by rw[List.length_drop,bs_len]
  have HL1:=Ld hlen1;have HL0:=Ld hlen0;clear hlen1 hlen0
  by_cases hlt:j < j1
  ·have hp:(0:Int) < (j1:Int) - j:=by omega
   have HN:Hid (Fd.z3u (s.data.toList.drop k)=Fd.z3u (s.data.toList.drop j1)):=by
    show _=_;rw[HM.out,Fd.q8c (by rw[HL1.out,HL0.out];omega),← HSK.out]
   obtain⟨g',rfl⟩:∃ g',gk=g' + 1:=⟨gk - 1,by omega⟩;go_wp2_with fail
   go_roundg g'
   case measure=>omega
   case rel=>exact⟨j1,by omega,hjs1,by omega,HN,X1,MV1⟩
  ·have hje:j1=j:=by omega
   subst hje;have hp:¬ (0:Int) < (j1:Int) - j1:=by omega
   have hno:¬ (Fd.V8 (s.data.toList.drop j1)).length < (s.data.toList.drop j1).length:=by rw[HL1.out,HL0.out];omega
   have HNO:=Ld hno;clear hno;have GL1:=Ld (HG.out.below (MV1.out.below (Lr)) hR);have HAS:=Ld (j0k GL1.out hR X1.out hjs hs);go_wp2_with fail;refine HAS.out.mono ?_;rintro e w2 (⟨ha,rfl,hx,hm⟩ | ⟨ha,rfl,hm⟩ | ⟨j2,ha,rfl,hj2,hjs2,hx,hm⟩)
   ·have HE:Hid (Fd.z3u (s.data.toList.drop k)=.ok () (s.data.toList.drop j1)):=by show _=_;rw[HM.out,Fd.j6f HNO.out ha]
    have R1:=Ld hx;have R2:=Ld (MV1.out.trans hm);clear ha hx hm;go_wp2_with fail;go_end0;exact .inr ⟨j1,HE.out,by rfl,hkj,hjs,R1.out,R2.out⟩
   ·have HE:Hid (Fd.z3u (s.data.toList.drop k)=.er 1):=by show _=_;rw[HM.out,Fd.miscX_er HNO.out ha]
    have R2:=Ld (MV1.out.trans hm);clear ha hm;go_wp2_with fail;exact⟨rfl,.inl ⟨HE.out,rfl,R2.out⟩⟩
   ·have HN:Hid (Fd.z3u (s.data.toList.drop k)=Fd.z3u (s.data.toList.drop j2)):=by show _=_;rw[HM.out,Fd.q8b HNO.out ha]
    have R1:=Ld hx;have R2:=Ld (MV1.out.trans hm);clear ha hx hm;obtain⟨g',rfl⟩:∃ g',gk=g' + 1:=⟨gk - 1,by omega⟩;go_wp2_with fail
    go_roundg g'
    case measure=>omega
    case rel=>exact⟨j2,by omega,hjs2,by omega,HN,R1,R2⟩
end
end Go.Proofs.YtjonkbdldebkiaaGreatDoor
namespace Fd
theorem q3m (s:Bs) (f:Bool) (c:UInt8) (t:Bs) (h:s=c :: t):z5v f s=if z2d f c then c :: z5v false t else []:=by rw[h];rfl
end Fd
namespace Go.Proofs.YtjonkbdldebkiaaGreatDoor
open Go.Proofs.Tryz Go.RowKit
section
variable {w w' : World} {R : Nat} {s : ByteArray} {k : Nat}
theorem q5l (h:Xr w R s k) (hk:k≤s.size) (hs:s.size≤1048576) :
  Calls prog 214 #[.pointer (some ⟨R,0,none⟩)] w fun e w' =>
   (Fd.z06 (s.data.toList.drop k)=.er 1∧e=GaveX 1∧Moved R w w')∨∃ nm j,Fd.z06 (s.data.toList.drop k)=.ok nm (s.data.toList.drop j)∧e=.returned (.string (st nm))∧k≤j∧j≤s.size∧Xr w' R s j∧Moved R w w'∧Fd.z0b nm=true:=by
 have c1:=h.c1;have HX:=Ld h;have HTX:Hid (Fd.z06 (s.data.toList.drop k)=if Fd.z0b (Fd.z5v true (s.data.toList.drop k)) then .ok (Fd.z5v true (s.data.toList.drop k)) ((s.data.toList.drop k).drop (Fd.z5v true (s.data.toList.drop k)).length) else .er 1):=rfl;clear h;go_enter func214,ntmps214;go_wp2_with fail;clear c1
 go_loopg [] s.size (fun g wx=>∃ j:Nat,k≤j∧j≤s.size∧s.size≤j + g∧Hid (Fd.z5v true (s.data.toList.drop k)=(s.data.toList.drop k).take (j - k)++Fd.z5v (decide (j=k)) (s.data.toList.drop j))∧Hid (Xr wx R s j)∧Hid (Moved R w wx))
 case atStart=>exact⟨k,Lr,hk,by omega,by show _=_;rw[Nat.sub_self,List.take_zero,List.nil_append,decide_eq_true rfl],HX,Moved.refl R w⟩
 case round =>
  obtain⟨j,hkj,hjs,hfu,HS,X,MV⟩:=hrel;have c0:=X.out.c0;have c1:=X.out.c1;have f1:=X.out.fz 1;have HFIN:Hid (Fd.z5v (decide (j=k)) (s.data.toList.drop j)=[]→(Fd.z5v true (s.data.toList.drop k)=(s.data.toList.drop k).take (j - k)∧(Fd.z5v true (s.data.toList.drop k)).length=j - k)):=by
   intro q;have h1:=HS.out;rw[q,List.append_nil] at h1;refine⟨h1,?_⟩;rw[h1,List.length_take,List.length_drop,bs_len];omega
  have hx:s.extract k j=st ((s.data.toList.drop k).take (j - k)):=by rw[Y1]
  have hkj1:(k:Int)≤j:=by omega
  have hjs1:(j:Int)≤s.size:=by omega
  by_cases hgo:∃ q:j < s.size,Fd.z2d (decide (j=k)) s[j]=true
  ·obtain⟨hlt,hb⟩:=hgo
   have hj1:(j:Int) < s.size:=by omega
   have hdr:=z09 s j hlt;have HW:=Ld (fun W=>z4j s[j] (decide (j=k)) W);have HSK:Hid (Fd.z5v (decide (j=k)) (s.data.toList.drop j)=s[j] :: Fd.z5v false (s.data.toList.drop (j + 1))):=by
    show _=_;rw[Fd.q3m _ _ _ _ hdr,hb,if_pos rfl]
   have HTA:Hid ((s.data.toList.drop k).take (j + 1 - k)=(s.data.toList.drop k).take (j - k)++[s[j]]):=by
    show _=_;have hlt2:j - k < (s.data.toList.drop k).length:=by rw[List.length_drop,bs_len];omega
    rw[show j + 1 - k=(j - k) + 1 by omega,List.take_succ_eq_append_getElem hlt2]
    congr 2
    rw[List.getElem_drop];have:k + (j - k)=j:=by omega
    simp only [this];rfl
   have hjk:((j:Int) == (k:Int))=decide (j=k):=by rw[Bool.eq_iff_iff,beq_iff_eq,decide_eq_true_iff];omega
   rw[hb] at HW;obtain⟨g',rfl⟩:∃ g',gk=g' + 1:=⟨gk - 1,by omega⟩;clear hb hdr HFIN hx;go_wp2_with fail
   go_quiet ((go_at_call 218;exact Calls.quiet_of_same (HW.out _)))
   go_wp2_with fail
   go_roundg g'
   case measure=>omega
   case rel=>exact⟨j + 1,by omega,by omega,by omega,by show _=_;rw[HS.out,HSK.out,HTA.out,decide_eq_false (by omega:¬ j + 1=k)];simp,by show Xr _ _ _ _;have:=(X.out.drewN nq).at_ (j + 1);simpa using this,(MV.out.drewN _).setCell 1 _⟩
  ·have hnil:Fd.z5v (decide (j=k)) (s.data.toList.drop j)=[]:=by
    by_cases hlt:j < s.size
    ·rw[Fd.q3m _ _ _ _ (z09 s j hlt),if_neg (fun q=>hgo ⟨hlt,q⟩)]
    ·rw[List.drop_of_length_le (by rw[bs_len];omega)];rfl
   obtain⟨hn1,hn2⟩:=HFIN.out hnil;have HTI:=Ld (fun W=>j0j ((s.data.toList.drop k).take (j - k)) W (by rw[List.length_take,List.length_drop,bs_len];omega));have HE0:Hid (Fd.z06 (s.data.toList.drop k)=if Fd.z0b ((s.data.toList.drop k).take (j - k)) then .ok ((s.data.toList.drop k).take (j - k)) (s.data.toList.drop j) else .er 1):=by
    show _=_;rw[HTX.out,hn2,hn1,List.drop_drop,show k + (j - k)=j by omega]
   clear hnil hn1 hn2 HFIN HS;obtain⟨b,hb⟩:∃ b,Fd.z0b ((s.data.toList.drop k).take (j - k))=b:=⟨_,rfl⟩;have HBT:=Ld hb;rw[hb] at HTI HE0;clear hb;clear HTX
   by_cases hlt:j < s.size
   ·have hj1:(j:Int) < s.size:=by omega
    have hjk:((j:Int) == (k:Int))=decide (j=k):=by rw[Bool.eq_iff_iff,beq_iff_eq,decide_eq_true_iff];omega
    have HW:=Ld (fun W=>z4j s[j] (decide (j=k)) W);have hf:Fd.z2d (decide (j=k)) s[j]=false:=Bool.eq_false_iff.2 (fun q=>hgo ⟨hlt,q⟩);rw[hf] at HW;clear hf hgo;go_wp2_with fail
    go_quiet ((go_at_call 218;exact Calls.quiet_of_same (HW.out _)))
    go_wp2_with fail
    go_quiet (fail)
    go_wp2_with fail;refine(HTI.out _).mono ?_;rintro e w2 ⟨rfl,hw2⟩;subst w2
    cases b with
    | true =>
     have HE:Hid (Fd.z06 (s.data.toList.drop k)=.ok ((s.data.toList.drop k).take (j - k)) (s.data.toList.drop j)):=by show _=_;rw[HE0.out];rfl
     go_wp2_with fail;go_ret;exact .inr ⟨_,j,HE.out,(by first | rfl | (rw[hx];rfl)),hkj,hjs,X.out.drewN _,MV.out.drewN _,HBT.out⟩
    | false =>
     have HE:Hid (Fd.z06 (s.data.toList.drop k)=.er 1):=by show _=_;rw[HE0.out];rfl
     go_wp2_with fail;refine(z3x 1 _).mono ?_;rintro e w3 ⟨rfl,hw3⟩;subst w3;go_wp2_with fail;exact⟨rfl,.inl ⟨HE.out,rfl,MV.out.drewN _⟩⟩
   ·have hj1:¬ (j:Int) < s.size:=by omega
    clear hgo;go_wp2_with fail
    go_quiet (fail)
    go_wp2_with fail
    go_quiet (fail)
    go_wp2_with fail;refine(HTI.out _).mono ?_;rintro e w2 ⟨rfl,hw2⟩;subst w2
    cases b with
    | true =>
     have HE:Hid (Fd.z06 (s.data.toList.drop k)=.ok ((s.data.toList.drop k).take (j - k)) (s.data.toList.drop j)):=by show _=_;rw[HE0.out];rfl
     go_wp2_with fail;go_ret;exact .inr ⟨_,j,HE.out,(by first | rfl | (rw[hx];rfl)),hkj,hjs,X.out.drewN _,MV.out.drewN _,HBT.out⟩
    | false =>
     have HE:Hid (Fd.z06 (s.data.toList.drop k)=.er 1):=by show _=_;rw[HE0.out];rfl
     go_wp2_with fail;refine(z3x 1 _).mono ?_;rintro e w3 ⟨rfl,hw3⟩;subst w3;go_wp2_with fail;exact⟨rfl,.inl ⟨HE.out,rfl,MV.out.drewN _⟩⟩
end
theorem q9g (args:Array Value) (w:World):(callFunc 167 args).run prog w=.ok (.enter 167 args) w:=Z7 func167 (by kernel_rfl) rfl _ _
theorem j6g (l:List Mk.At) (v:Value) (K:Nat→Prop) (w:World) (hv:AtsV w K v l) (hK:∀ b,K b→b < w.heap.size) (hl:Mk.Fo.atB l≤1000000) :
  Calls prog 168 #[v,.func (.func 167) #[] #[]] w fun e w'=>e=.returned (.int .i64 (Mk.z14 Fd.z0b [] l))∧Below w.heap.size w w':=by
 have hll:=Mk.z5f l;obtain⟨b,o,cap,hKb,hv1,hcl⟩:=hv.at_
 have HC:=Ld hcl;have EG:=Ld q9g;clear hcl;have eg:=q9g
 rcases hv1 with hv1 | ⟨ao,hv1,hl0⟩
 ·subst hv1
  have hcap:l.length≤cap:=by
   obtain⟨ao',cap',h1,_,h3,_⟩:=hv;injection h1 with _ _ e3;rw[e3];exact h3
  go_enter func168,ntmps168;go_wp2_with fail
  go_loopw [9] (fun i wr=>∃ k:Nat,k≤l.length∧i=.int .i64 k∧Hid (Mk.z14 Fd.z0b [] l=Mk.z14 Fd.z0b (l.take k) (l.drop k))∧Hid (Below w.heap.size w wr)) (fun i _=>l.length - (intOf i).toNat)
  case atStart=>exact⟨0,Nat.zero_le _,rfl,rfl,Below.refl _ _⟩
  case round =>
   obtain⟨k,hk,rfl,HA,BL⟩:=hrel;have hsz:=BL.out.size
   by_cases hlt:k < l.length
   ·have hb:b < w.heap.size:=hK b (hKb (by intro e;subst e;simp at hlt))
    obtain⟨c0,c1⟩:=HC.out k hlt;rw[← BL.out.cell (p:=⟨b,_,none⟩) hb] at c0 c1;have hmem:=Mk.q0h (List.getElem_mem hlt);have HD:Hid (Mk.z14 Fd.z0b [] l=if !Fd.z0b l[k].n then 1 else if Mk.z4m (l.take k) l[k].n then 6 else Mk.z14 Fd.z0b (l.take (k + 1)) (l.drop (k + 1))):=by show _=_;rw[HA.out,Mk.q42 _ _ _ hlt]
    generalize l[k]=a at c0 c1 HD hmem;have hnm:=fun W=>j0j a.n W (by omega)
    have hal:=(Below.refl wr.heap.size wr).alloc (Lr) (.cells #[.string (st a.n),.string (st a.v)] 56);have PB:=Ld (Blk.new wr 56 #[.string (st a.n),.string (st a.v)]);have BL1:=Ld (BL.out.trans (hal.mono hsz))
    cases hin:Fd.z0b a.n with
    | false =>
     rw[hin] at HD hnm;have HN:=Ld hnm;clear hnm hin HC HA hal;go_wp2_with fail;refine(HN.out _).mono ?_;rintro e w2 ⟨rfl,rfl⟩;go_wp2_with fail;go_ret;exact⟨by rw[HD.out];rfl,BL1.out⟩
    | true =>
     rw[hin] at HD hnm;have HN:=Ld hnm;obtain⟨hh,hhe⟩:∃ hh,Mk.z4m (l.take k) a.n=hh:=⟨_,rfl⟩;rw[hhe] at HD;have hvw:AtsV (wr.alloc (.cells #[.string (st a.n),.string (st a.v)] 56)) K (.slice (some ⟨b,o,none⟩) k cap) (l.take k):=(AtsV.take hv k hk).below hK BL1.out;have hcf:=z2c 219 #[.pointer (some ⟨wr.heap.size,0,none⟩)] (fun x=>x.n == a.n) j5h (l.take k) (.slice (some ⟨b,o,none⟩) k cap) K _ hvw (fun b hb=>Nat.lt_of_lt_of_le (hK b hb) BL1.out.size) (by rw[List.length_take];omega) (q7n wr.heap.size a.n (l.take k) _ (Blk.lt PB.out) (Blk.cell PB.out 0));rw[show (l.take k).any (fun x=>x.n == a.n)=hh from hhe] at hcf;have HCF:=Ld hcf;have hkc:(k:Int)≤cap:=by omega
     have hk0:(0:Int)≤k:=by omega
     clear hnm hin HC HA hal hvw hcf hhe
     cases hh with
     | true =>
      go_wp2_with fail;refine(HN.out _).mono ?_;rintro e w2 ⟨rfl,rfl⟩;go_wp2_with fail;refine HCF.out.mono ?_;rintro e w3 ⟨rfl,hb3⟩;have BL3:=Ld (BL1.out.trans (hb3.mono BL1.out.size));clear hb3 HCF;go_wp2_with fail;go_ret;exact⟨by rw[HD.out];rfl,BL3.out⟩
     | false =>
      go_wp2_with fail;refine(HN.out _).mono ?_;rintro e w2 ⟨rfl,rfl⟩;go_wp2_with fail;refine HCF.out.mono ?_;rintro e w3 ⟨rfl,hb3⟩;have BL3:=Ld (BL1.out.trans (hb3.mono BL1.out.size));clear hb3 HCF;go_wp2_with fail;go_roundw
      case rel=>exact⟨k + 1,by omega,by go_num,by show _=_;rw[HD.out];rfl,BL3⟩
      case measure=>simp[intOf];omega
   ·have hke:k=l.length:=by omega
    have HE:Hid (Mk.z14 Fd.z0b [] l=0):=by show _=_;rw[HA.out,List.drop_of_length_le (by omega)];rfl
    clear HA HC;go_wp2_with fail;go_ret;exact⟨by rw[HE.out];rfl,BL.out⟩
 ·subst hl0
  subst hv1;clear HC hK;go_enter func168,ntmps168;go_wp2_with fail
  go_loopw [9] (fun i wr=>i=.int .i64 0∧wr=w) (fun _ _=>0)
  case atStart=>exact⟨rfl,rfl⟩
  case round =>
   obtain⟨rfl,rfl⟩:=hrel;go_wp2_with fail;go_ret;exact⟨rfl,Below.refl _ _⟩
theorem q96 (s:List UInt8) (w:World) (hs:s.length≤1048576) (hg:Gl w) :
  Calls prog 253 #[.string (st s)] w fun e w'=>Below w.heap.size w w'∧(((Mk.take s).2=true∧e=.returned (.string (st (Mk.take s).1)))∨((Mk.take s).2=false∧e=GaveX 1)):=by
 have HT:=Ld (q0v (st s) w (by rw[Z4];exact hs) hg);rw[z1o] at HT;generalize hp:Mk.take s=p at HT ⊢;obtain⟨t,ok⟩:=p;clear hp
 cases ok with
 | true =>
  go_enter func253,ntmps253;go_wp2_with fail;refine HT.out.mono ?_;rintro e w1 ⟨rfl,hb⟩;go_wp2_with fail;go_ret;exact⟨hb,.inl ⟨(by first | rfl | trivial),(by first | rfl | trivial)⟩⟩
 | false =>
  go_enter func253,ntmps253;go_wp2_with fail;refine HT.out.mono ?_;rintro e w1 ⟨rfl,hb⟩;go_wp2_with fail;refine(z3x 1 _).mono ?_;rintro e w2 ⟨rfl,hw2⟩;subst w2;go_wp2_with fail;exact⟨rfl,hb,.inr ⟨(by first | rfl | trivial),(by first | rfl | trivial)⟩⟩
theorem skip_at (s:ByteArray) (k:Nat) (hk:k≤s.size):∃ j,k≤j∧j≤s.size∧s.data.toList.drop j=Fd.V8 (s.data.toList.drop k):=by
 have h:=List.dropWhile_suffix Fd.z2s (l:=s.data.toList.drop k);obtain⟨p,hp⟩:=h;refine⟨k + p.length,by omega,?_,?_⟩
 ·have:=congrArg List.length hp
  rw[List.length_append,List.length_drop,bs_len] at this;omega
 ·rw[← List.drop_drop];show _=List.dropWhile Fd.z2s _;conv=>lhs;rw[← hp]
  exact List.drop_left
section
variable {w : World} {R : Nat} {s : ByteArray} {k j : Nat}
theorem drop_inj {s:ByteArray} {a b:Nat} (ha:a≤s.size) (hb:b≤s.size) (h:s.data.toList.drop a=s.data.toList.drop b):a=b:=by
 have:=congrArg List.length h;rw[List.length_drop,List.length_drop,bs_len] at this;omega
theorem j4a (h:Xr w R s k) (hk:k≤s.size) (hs:s.size≤1048576) (hj:j≤s.size) (hd:s.data.toList.drop j=Fd.V8 (s.data.toList.drop k)) :
  Calls prog 211 #[.pointer (some ⟨R,0,none⟩)] w fun e w'=>e=.returned (.int .i64 ((j:Int) - k))∧Xr w' R s j∧Moved R w w':=by
 refine(q0d h hk hs).mono ?_;rintro e w1 ⟨j',h1,h2,h3,h4,h5,h6⟩;have e:j'=j:=drop_inj h2 hj (h4.trans hd.symm);subst e;exact⟨h3,h5,h6⟩
end
end Go.Proofs.YtjonkbdldebkiaaGreatDoor
namespace Fd
open Mk
def q1k (n:Bs) (a:List At) (t:Bs) (k:Fo) (deep:Int):Prop:=if n=[] then t ≠ []∧a=[]∧k=.nil else z0b n=true∧t=[]∧z14 z0b [] a=0∧XOk k deep false
theorem XOk.one {n:Bs} {a:List At} {t:Bs} {k r:Fo} {deep:Int} {prev:Bool} (h:XOk (.node n a t k r) deep prev):q1k n a t k (deep + 1)∧(n=[]→prev=false)∧XOk r deep (decide (n=[])):=by
 unfold XOk at h;unfold q1k
 by_cases hn:n=[]
 ·rw[if_pos hn] at h
  rw[if_pos hn,decide_eq_true hn];exact⟨⟨h.2.1,h.2.2.1,h.2.2.2.1⟩,fun _=>h.1,h.2.2.2.2⟩
 ·rw[if_neg hn] at h
  rw[if_neg hn,decide_eq_false hn];exact⟨⟨h.1,h.2.1,h.2.2.2.1,h.2.2.2.2.1⟩,fun q=>absurd q hn,h.2.2.2.2.2⟩
end Fd
namespace Go.Proofs.YtjonkbdldebkiaaGreatDoor
open Go.Proofs.Tryz Go.RowKit
theorem xm_node (N:Nat):∀ (n:List UInt8) (a:List Mk.At) (t:List UInt8) (k:Mk.Fo) (deep:Int),k.bulk < N→n.length + t.length + Mk.Fo.atB a + k.bulk≤1000000→Fd.q1k n a t k deep→∀ (va vk:Value) (K:Nat→Prop) (w:World),AtsV w K va a→FoV w K vk k→(∀ b,K b→b < w.heap.size) →
  Calls prog 102 #[z05 n va t vk] w fun e w'=>e=.returned (.int .i64 0)∧Below w.heap.size w w':=by
 induction N with
 | zero=>intro n a t k deep h;omega
 | succ N ih =>
  intro n a t k deep hN hl hok va vk K w hva hvk hK;have hst:∀ l:List UInt8,(st l).toList=l:=fun l=>Lib.toList_data _
  have HIH:=Ld ih;clear ih;obtain⟨g,o,cap,hv1,hlen,hat⟩:=hvk.at_
  have HAT:=Ld hat
  obtain⟨aoa,capa,hva1,_⟩:=id hva;subst hva1;obtain⟨aok,capk,xsk,hvk1,_⟩:=id hvk;subst hvk1;have hfl:=Mk.Fo.z1r k;have hll:=Mk.z5f a;have HV1:=Ld hv1;have hal:=(Below.refl w.heap.size w).alloc (Lr) (.cells #[.string (st n),.slice aoa a.length capa,.string (st t),.slice aok k.len capk] 53);have AL:=Ld hal;have NB:=Ld (Blk.new w 53 #[.string (st n),.slice aoa a.length capa,.string (st t),.slice aok k.len capk]);have HTA:=Ld (fun W (hW:Below w.heap.size w W)=>j6g a (.slice aoa a.length capa) K W (hva.below hK hW) (fun b q=>Nat.lt_of_lt_of_le (hK b q) hW.size) (by omega));clear hal hat hva hvk hv1;unfold z05;go_enter func102,ntmps102;go_upto_region 1 with fail;obtain⟨X,hX⟩:∃ X,X=w.heap.size:=⟨_,rfl⟩;rw[← hX] at NB;rw[← hX];generalize w.alloc (.cells #[.string (st n),.slice aoa a.length capa,.string (st t),.slice aok k.len capk] 53)=w1 at AL NB ⊢;clear hX;have p0:w1.cell? ⟨X,0,none⟩=some (.string (st n)):=Blk.cell NB.out 0;have p1:w1.cell? ⟨X,1,none⟩=some (.slice aoa a.length capa):=Blk.cell NB.out 1;have p2:w1.cell? ⟨X,2,none⟩=some (.string (st t)):=Blk.cell NB.out 2;have p3:w1.cell? ⟨X,3,none⟩=some (.slice aok k.len capk):=Blk.cell NB.out 3;unfold Fd.q1k at hok
  rcases z3c n with ⟨e1,e2⟩ | ⟨e1,e2⟩
  ·rw[if_pos e1] at hok
   obtain⟨h1,h2,h3⟩:=hok;have t2:t.isEmpty=false:=by
    cases t with
    | nil=>exact absurd rfl h1
    | cons _ _=>rfl
   have a2:¬ 0 < a.length:=by rw[h2];simp
   have k2:¬ 0 < k.len:=by rw[h3];simp[Mk.Fo.len]
   clear e1 h1 h2 h3 HTA HAT HIH HV1 hfl hll NB;generalize a.length=la at p1 a2 ⊢;generalize k.len=lk at p3 k2 ⊢;go_wp2_with fail;go_ret;exact⟨rfl,AL.out⟩
  rw[if_neg e1] at hok;clear e1;obtain⟨h1,h2,h3,h4⟩:=hok;have HX:=Ld h4;subst h2;have e0:([]:List UInt8).isEmpty=true:=rfl;have HT:Hid (∀ W,Calls prog 167 #[.string (st n)] W fun e w'=>e=.returned (.bool true)∧w'=W):=fun W=>by rw[← h1];exact j0j n W (by omega)
  clear h1 h4;go_wp2_with fail;refine(HT.out _).mono ?_;rintro e w2 ⟨rfl,hw2⟩;rw[hw2];clear hw2 w2 HT;rw[h3] at HTA;have HA:=Ld (HTA.out w1 AL.out);clear HTA h3;go_wp2_with fail;refine HA.out.mono ?_;rintro e w2 ⟨rfl,hb2⟩;have B2:=Ld (AL.out.trans (hb2.mono AL.out.size));have NB2:=Ld (Blk.below NB.out hb2 NB.out.lt);clear hb2 HA p0 p1 p2 p3 NB AL;have p3:w2.cell? ⟨X,3,none⟩=some (.slice aok k.len capk):=Blk.cell NB2.out 3;go_upto_region 11 with fail
  go_loopw [51] (fun i wr=>∃ (j:Nat) (pv:Bool),j≤k.len∧i=.int .i64 j∧Hid (Fd.XOk (k.drop j) deep pv)∧Hid (∀ j',j=j' + 1→∀ n0 a0 t0 k0 r0,k.drop j'=.node n0 a0 t0 k0 r0→pv=decide (n0=[]))∧Hid (Below w.heap.size w wr)∧Hid (Blk wr X 53 #[.string (st n),.slice aoa a.length capa,.string (st []),.slice aok k.len capk])) (fun i _=>k.len - (intOf i).toNat)
  case atStart=>exact⟨0,false,Nat.zero_le _,rfl,by show Fd.XOk _ _ _;rw[Mk.Fo.drop_zero];exact HX.out,fun j' q=>by omega,B2,NB2⟩
  case round =>
   obtain⟨j,pv,hj,rfl,HXJ,HPV,BL,NBR⟩:=hrel
   by_cases hlt:j < k.len
   ·obtain⟨n',a',t',kk,r,hd,hd1⟩:=Mk.Fo.z6j k j hlt
    obtain⟨va',vk',c0,c1,c2,c3,hva',hvk'⟩:=HAT.out j n' a' t' kk r hd;have hkn:k ≠ .nil:=by rintro rfl;exact absurd hlt (Nat.not_lt_zero _)
    rcases HV1.out with ⟨hq,hKg⟩ | ⟨ao,hq,h0⟩
    case inr=>exact absurd h0 hkn
    injection hq with q1 q2 q3;subst q1;have hgl:g < w.heap.size:=hK g hKg;clear q2 q3 hkn;rw[← BL.out.cell (p:=⟨g,_,none⟩) hgl] at c0 c1 c2 c3;obtain⟨aoa',capa',hva1',_⟩:=id hva';obtain⟨aok',capk',xsk',hvk1',_⟩:=id hvk';subst hva1';subst hvk1';have hdb:(k.drop j).bulk=1 + n'.length + t'.length + Mk.Fo.atB a' + kk.bulk + r.bulk:=by rw[hd];rfl
    have hdb2:=Mk.Fo.z1z k j;have HXJ2:=HXJ.out;rw[hd] at HXJ2;obtain⟨hone,hpv0,hnx⟩:=HXJ2.one;have hal1:=(Below.refl wr.heap.size wr).alloc (Lr) (.cells #[.string (st n'),.slice aoa' a'.length capa',.string (st t'),.slice aok' kk.len capk'] 53);have BL1:=Ld (BL.out.trans (hal1.mono BL.out.size));have NB1:=Ld (Blk.alloc NBR.out (.cells #[.string (st n'),.slice aoa' a'.length capa',.string (st t'),.slice aok' kk.len capk'] 53));have QB:=Ld (Blk.new wr 53 #[.string (st n'),.slice aoa' a'.length capa',.string (st t'),.slice aok' kk.len capk']);have HC:=Ld (HIH.out n' a' t' kk _ (by omega) (by omega) hone _ _ K (wr.alloc (.cells #[.string (st n'),.slice aoa' a'.length capa',.string (st t'),.slice aok' kk.len capk'] 53)) (hva'.below hK BL1.out) (hvk'.below hK BL1.out) (fun b hb=>Nat.lt_of_lt_of_le (hK b hb) BL1.out.size));have HNX:Hid (Fd.XOk (k.drop (j + 1)) deep (decide (n'=[]))):=by show Fd.XOk _ _ _;rw[hd1];exact hnx
    have HPN:Hid (∀ j',j + 1=j' + 1→∀ n0 a0 t0 k0 r0,k.drop j'=.node n0 a0 t0 k0 r0→decide (n'=[])=decide (n0=[])):=by
     show ∀ j',j + 1=j' + 1→∀ n0 a0 t0 k0 r0,k.drop j'=.node n0 a0 t0 k0 r0→decide (n'=[])=decide (n0=[]);intro j' hj' n0 a0 t0 k0 r0 h0;have:j'=j:=by omega
     subst this;rw[hd] at h0;injection h0 with e1;rw[e1]
    have hji:(j:Int) < k.len:=by omega
    have HPREV:Hid (n'=[]→∀ j',j=j' + 1→∃ n0,n0.isEmpty=false∧w.cell? ⟨g,o + j' * 4,none⟩=some (.string (st n0))):=by
     show n'=[]→∀ j',j=j' + 1→∃ n0:List UInt8,n0.isEmpty=false∧w.cell? ⟨g,o + j' * 4,none⟩=some (.string (st n0));intro he j' hj';obtain⟨n0,a0,t0,k0,r0,h0,_⟩:=Mk.Fo.z6j k j' (by omega);obtain⟨_,_,z0,_⟩:=HAT.out j' n0 a0 t0 k0 r0 h0;have hpp:=HPV.out j' hj' n0 a0 t0 k0 r0 h0;rw[hpv0 he] at hpp;have hn0:n0 ≠ []:=of_decide_eq_false hpp.symm;refine⟨n0,?_,z0⟩
     cases n0 with
     | nil=>exact absurd rfl hn0
     | cons _ _=>rfl
    unfold z05 at HC;clear hd hd1 hva' hvk' hal1 NBR hone hnx hpv0 HXJ2;go_upto_region 13 with fail;generalize wr.alloc (.cells #[.string (st n'),.slice aoa' a'.length capa',.string (st t'),.slice aok' kk.len capk'] 53)=w3 at BL1 QB HC NB1 ⊢;have q0:w3.cell? ⟨wr.heap.size,0,none⟩=some (.string (st n')):=Blk.cell QB.out 0;have q1:w3.cell? ⟨wr.heap.size,1,none⟩=some (.slice aoa' a'.length capa'):=Blk.cell QB.out 1;have q2:w3.cell? ⟨wr.heap.size,2,none⟩=some (.string (st t')):=Blk.cell QB.out 2;have q3:w3.cell? ⟨wr.heap.size,3,none⟩=some (.slice aok' kk.len capk'):=Blk.cell QB.out 3;clear c0 c1 c2 c3;go_wp2_with fail;refine HC.out.mono ?_;rintro e w4 ⟨rfl,hb4⟩;have BL4:=Ld (BL1.out.trans (hb4.mono BL1.out.size));have NB4:=Ld (Blk.below NB1.out hb4 NB1.out.lt);have r0:w4.cell? ⟨wr.heap.size,0,none⟩=some (.string (st n')):=Blk.cell (Blk.below QB.out hb4 QB.out.lt) 0;have r3:w4.cell? ⟨X,3,none⟩=some (.slice (some ⟨g,o,none⟩) k.len capk):=Blk.cell NB4.out 3;clear hb4 HC q0 q1 q2 q3 NB1
    by_cases hj0:j=0
    ·subst hj0
     go_wp2_with fail;go_roundw
     case rel=>exact⟨0 + 1,_,by omega,by go_num,HNX,HPN,BL4,NB4⟩
     case measure=>simp[intOf];omega
    ·have hjp:(0:Int) < j:=by omega
     rcases z3c n' with ⟨e1,e2⟩ | ⟨e1,e2⟩
     ·obtain⟨j',rfl⟩:∃ j',j=j' + 1:=⟨j - 1,by omega⟩
      obtain⟨n0,h0,z0⟩:=HPREV.out e1 j' rfl;rw[← BL4.out.cell (p:=⟨g,_,none⟩) hgl] at z0;have hsub:((j' + 1:Nat):Int) - 1=j':=by omega
      have hlt2:(j':Int) < k.len:=by omega
      clear HPREV hji hdb hdb2;go_wp2_with fail;go_roundw
      case rel=>exact⟨j' + 1 + 1,_,by omega,by go_num,HNX,HPN,BL4,NB4⟩
      case measure=>simp[intOf];omega
     ·go_wp2_with fail
      go_roundw
      case rel=>exact⟨j + 1,_,by omega,by go_num,HNX,HPN,BL4,NB4⟩
      case measure=>simp[intOf];omega
   ·have hji:¬ (j:Int) < k.len:=by omega
    clear HXJ HPV;go_wp2_with fail;go_ret;exact⟨rfl,BL.out⟩
end Go.Proofs.YtjonkbdldebkiaaGreatDoor
