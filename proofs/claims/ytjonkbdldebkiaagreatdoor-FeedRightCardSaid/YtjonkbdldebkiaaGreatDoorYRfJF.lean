/- Contract of the law's allowed at a tree in which all is such as may be. Condition: at most 33554432 nodes, attributes and letters. -/
import Derived.Test.YtjonkbdldebkiaaGreatDoorYWfH
import Derived.Test.YtjonkbdldebkiaaGreatDoorYMkTok2
import Derived.Test.YtjonkbdldebkiaaGreatDoorYUrlI
import Derived.Test.YtjonkbdldebkiaaGreatDoorYMkSame
import Derived.Test.YtjonkbdldebkiaaGreatDoorYMkStay1
import Derived.Test.YtjonkbdldebkiaaGreatDoorYMkHtml
set_option linter.unusedVariables false
set_option linter.unusedSimpArgs false
set_option maxHeartbeats 16000000
set_option maxRecDepth 100000
namespace Mk
theorem q3s:∀ (f:Fo) (k:Nat) (n:Bs) (a:List At) (t:Bs) (kk r:Fo),z6t f=true→f.drop k=.node n a t kk r→(if z1f n then decide (a=[]) else richB n && a.all okAt)=true∧z6t kk=true
 | .nil,0,n,a,t,kk,r,_,h=>by cases h
 | .nil,k + 1,n,a,t,kk,r,_,h=>by cases h
 | .node n' a' t' k' r',0,n,a,t,kk,r,ha,h=>by
  have h:Fo.node n' a' t' k' r'=.node n a t kk r:=h;injection h with e1 e2 e3 e4 e5;subst e1;subst e2;subst e4;unfold z6t at ha;rw[Bool.and_eq_true,Bool.and_eq_true] at ha;exact⟨ha.1.1,ha.1.2⟩
 | .node n' a' t' k' r',k + 1,n,a,t,kk,r,ha,h=>by
  unfold z6t at ha;rw[Bool.and_eq_true] at ha;exact q3s r' k n a t kk r ha.2 h
end Mk
namespace Go.Proofs.YtjonkbdldebkiaaGreatDoor
open Go.RowKit
theorem z0a (n x:List UInt8):(n=x∧(n == x)=true)∨(n ≠ x∧(n == x)=false):=by
 by_cases h:n=x
 ·exact .inl ⟨h,by rw[beq_iff_eq];exact h⟩
 ·exact .inr ⟨h,by rw[beq_eq_false_iff_ne];exact h⟩
theorem AtsV.slice_at {w:World} {K:Nat→Prop} {v:Value} {l:List Mk.At} (h:AtsV w K v l):∃ ao cap,v=.slice ao l.length cap∧∀ k (hk:k < l.length),∃ g o,ao=some ⟨g,o,none⟩∧K g∧w.cell? ⟨g,o + k * 2,none⟩=some (.string (st l[k].n))∧w.cell? ⟨g,o + k * 2 + 1,none⟩=some (.string (st l[k].v)):=by
 obtain⟨g,o,cap,hK,hv,hc⟩:=h.at_
 rcases hv with hv | ⟨ao,hv,hl⟩
 ·exact⟨_,_,hv,fun k hk=>⟨g,o,rfl,hK (by rintro rfl;simp at hk),(hc k hk).1,(hc k hk).2⟩⟩
 ·exact⟨ao,cap,by rw[hv,hl];rfl,fun k hk=>by rw[hl] at hk;simp at hk⟩
def AllowC (f:Mk.Fo):Prop:=∀ (v:Value) (K:Nat→Prop) (w:World),FoV w K v f→(∀ b,K b→b < w.heap.size)→Calls Tryz.prog 36 #[v] w fun e w'=>e=.returned (.bool true)∧Below w.heap.size w w'
theorem j5a (N:Nat):∀ f:Mk.Fo,f.bulk < N→f.bulk≤33554432→Mk.z6t f=true→AllowC f:=by
 induction N with
 | zero=>intro f hN;omega
 | succ N ih =>
  intro f hN hb hal v K w hv hK;have hst:∀ l:List UInt8,(st l).toList=l:=fun l=>Lib.toList_data _
  obtain⟨ao,cap,hv1,hvm,hvc⟩:=hv.get;subst hv1;have HV:=Lib.hid hvc;have HK:=Lib.hid hK;have hfl:=Mk.Fo.z0k f;clear hvc hv hK;go_enter Tryz.func36,Tryz.ntmps36;go_wp2_with fail
  go_loopw [3] (fun i wr=>∃ k:Nat,k≤f.len∧i=.int .i64 (k:Int)∧Hid (Below w.heap.size w wr)) (fun i _=>f.len - (intOf i).toNat)
  case atStart=>exact⟨0,Nat.zero_le _,rfl,Below.refl _ _⟩
  case round =>
   obtain⟨k,hk,rfl,BL⟩:=hrel
   by_cases hlt:k < f.len
   ·obtain⟨n,a,t,kk,r,hd,hd1⟩:=Mk.Fo.z3a f k hlt
    obtain⟨g,o,aoa,capa,aok,capk,rfl,hKg,c0,c1,c2,c3,hva,hvk⟩:=HV.out k n a t kk r hd;have hgw:=HK.out g hKg;obtain⟨hok,hkk⟩:=Mk.q3s f k n a t kk r hal hd;have hdb:(f.drop k).bulk=1 + n.length + t.length + Mk.Fo.atB a + kk.bulk + r.bulk:=by rw[hd];rfl
    have hdb2:=Mk.Fo.z0s f k;have hatl:=Mk.z1u a;have halen:a.length≤33554432:=by omega
    rw[← BL.out.cell (p:=⟨g,_,none⟩) hgw] at c0 c1 c2 c3;have hal1:=(Below.refl wr.heap.size wr).alloc (Nat.le_refl _) (.cells #[.string (st n),.slice aoa a.length capa,.string (st t),.slice aok kk.len capk] 53);have BL1:=Lib.hid (BL.out.trans (hal1.mono BL.out.size));have PB:=Lib.hid (Blk.new wr 53 #[.string (st n),.slice aoa a.length capa,.string (st t),.slice aok kk.len capk]);have HVA:=Lib.hid (hva.below HK.out BL1.out);have IH:Hid (∀ W,Below w.heap.size w W→Calls Tryz.prog 36 #[.slice aok kk.len capk] W fun e w'=>e=.returned (.bool true)∧Below W.heap.size W w'):=fun W hW=>ih kk (by omega) (by omega) hkk _ K W (hvk.below HK.out hW) (fun b q=>Nat.lt_of_lt_of_le (HK.out b q) hW.size)
    have hki:(k:Int) < f.len:=by omega
    have hk0:(0:Int)≤k:=by omega
    have HOK:=Lib.hid hok;have hKw:∀ b,K b→b < (wr.alloc (.cells #[.string (st n),.slice aoa a.length capa,.string (st t),.slice aok kk.len capk] 53)).heap.size:=fun b q=>Nat.lt_of_lt_of_le (HK.out b q) BL1.out.size
    have HKW:=Lib.hid hKw;clear hd hd1 hva hvk hdb hdb2 ih HV hok hkk hal hal1 hKw;go_upto_region 5 with fail;generalize (wr.alloc (.cells #[.string (st n),.slice aoa a.length capa,.string (st t),.slice aok kk.len capk] 53))=w1 at BL1 PB HVA HKW ⊢;generalize wr.heap.size=T at PB ⊢;clear BL c0 c1 c2 c3;have d0:w1.cell? ⟨T,0,none⟩=some (.string (st n)):=Blk.cell PB.out 0;have d1:w1.cell? ⟨T,1,none⟩=some (.slice aoa a.length capa):=Blk.cell PB.out 1;have d3:w1.cell? ⟨T,3,none⟩=some (.slice aok kk.len capk):=Blk.cell PB.out 3;have hTl:T < w1.heap.size:=Blk.lt PB.out
    go_upto_block 2 with fail
    go_cut [] (fun wx=>Hid (Below w1.heap.size w1 wx))
    case first =>
     as_aux_lemma =>
     go_upto_region 7 with fail
     go_cut [21] (fun b wx=>b=.bool (n == [])∧w1=wx)
     case first =>
      as_aux_lemma =>
      rcases z0a n [] with ⟨h,q⟩ | ⟨h,q⟩
      ·have qe:n.isEmpty=true:=by rw[h];rfl
       clear h;go_wp2_with fail;go_meet
       case rel=>exact⟨by rw[q],rfl⟩
      ·have qe:n.isEmpty=false:=by cases n with | nil=>exact absurd rfl h | cons _ _=>rfl
       clear h;go_wp2_with fail;go_meet
       case rel=>exact⟨by rw[q],rfl⟩
     case rest =>
     as_aux_lemma =>
     obtain⟨rfl,hwx⟩:=hcut;subst hwx;go_upto_if 21 with fail
     go_cut [21] (fun b wx=>b=.bool (Mk.z1f n)∧w1=wx)
     case first =>
      as_aux_lemma =>
      have HBB:Hid (Mk.z1f n=(n == [] || n == [98] || n == [105] || n == [101,109] || n == [115,116,114,111,110,103] || n == [112] || n == [98,114] || n == [104,114] || n == [117,108] || n == [111,108] || n == [108,105] || n == [98,108,111,99,107,113,117,111,116,101] || n == [99,111,100,101])):=rfl
      rcases z0a n [] with ⟨h,q0⟩ | ⟨h,q0⟩
      ·clear h
       have HE:Hid (Mk.z1f n=true):=by show _=_;rw[HBB.out,q0];simp
       clear HBB;rw[q0];go_wp2_with fail;go_meet
       case rel=>exact⟨by rw[HE.out],rfl⟩
      clear h
      rcases z0a n [98] with ⟨h,q1⟩ | ⟨h,q1⟩
      ·clear h
       have HE:Hid (Mk.z1f n=true):=by show _=_;rw[HBB.out,q1];simp
       clear HBB;rw[q0];go_wp2_with fail;go_meet
       case rel=>exact⟨by rw[HE.out],rfl⟩
      clear h
      rcases z0a n [105] with ⟨h,q2⟩ | ⟨h,q2⟩
      ·clear h
       have HE:Hid (Mk.z1f n=true):=by show _=_;rw[HBB.out,q2];simp
       clear HBB;rw[q0];go_wp2_with fail;go_meet
       case rel=>exact⟨by rw[HE.out],rfl⟩
      clear h
      rcases z0a n [101,109] with ⟨h,q3⟩ | ⟨h,q3⟩
      ·clear h
       have HE:Hid (Mk.z1f n=true):=by show _=_;rw[HBB.out,q3];simp
       clear HBB;rw[q0];go_wp2_with fail;go_meet
       case rel=>exact⟨by rw[HE.out],rfl⟩
      clear h
      rcases z0a n [115,116,114,111,110,103] with ⟨h,q4⟩ | ⟨h,q4⟩
      ·clear h
       have HE:Hid (Mk.z1f n=true):=by show _=_;rw[HBB.out,q4];simp
       clear HBB;rw[q0];go_wp2_with fail;go_meet
       case rel=>exact⟨by rw[HE.out],rfl⟩
      clear h
      rcases z0a n [112] with ⟨h,q5⟩ | ⟨h,q5⟩
      ·clear h
       have HE:Hid (Mk.z1f n=true):=by show _=_;rw[HBB.out,q5];simp
       clear HBB;rw[q0];go_wp2_with fail;go_meet
       case rel=>exact⟨by rw[HE.out],rfl⟩
      clear h
      rcases z0a n [98,114] with ⟨h,q6⟩ | ⟨h,q6⟩
      ·clear h
       have HE:Hid (Mk.z1f n=true):=by show _=_;rw[HBB.out,q6];simp
       clear HBB;rw[q0];go_wp2_with fail;go_meet
       case rel=>exact⟨by rw[HE.out],rfl⟩
      clear h
      rcases z0a n [104,114] with ⟨h,q7⟩ | ⟨h,q7⟩
      ·clear h
       have HE:Hid (Mk.z1f n=true):=by show _=_;rw[HBB.out,q7];simp
       clear HBB;rw[q0];go_wp2_with fail;go_meet
       case rel=>exact⟨by rw[HE.out],rfl⟩
      clear h
      rcases z0a n [117,108] with ⟨h,q8⟩ | ⟨h,q8⟩
      ·clear h
       have HE:Hid (Mk.z1f n=true):=by show _=_;rw[HBB.out,q8];simp
       clear HBB;rw[q0];go_wp2_with fail;go_meet
       case rel=>exact⟨by rw[HE.out],rfl⟩
      clear h
      rcases z0a n [111,108] with ⟨h,q9⟩ | ⟨h,q9⟩
      ·clear h
       have HE:Hid (Mk.z1f n=true):=by show _=_;rw[HBB.out,q9];simp
       clear HBB;rw[q0];go_wp2_with fail;go_meet
       case rel=>exact⟨by rw[HE.out],rfl⟩
      clear h
      rcases z0a n [108,105] with ⟨h,q10⟩ | ⟨h,q10⟩
      ·clear h
       have HE:Hid (Mk.z1f n=true):=by show _=_;rw[HBB.out,q10];simp
       clear HBB;rw[q0];go_wp2_with fail;go_meet
       case rel=>exact⟨by rw[HE.out],rfl⟩
      clear h
      rcases z0a n [98,108,111,99,107,113,117,111,116,101] with ⟨h,q11⟩ | ⟨h,q11⟩
      ·clear h
       have HE:Hid (Mk.z1f n=true):=by show _=_;rw[HBB.out,q11];simp
       clear HBB;rw[q0];go_wp2_with fail;go_meet
       case rel=>exact⟨by rw[HE.out],rfl⟩
      clear h
      rcases z0a n [99,111,100,101] with ⟨h,q12⟩ | ⟨h,q12⟩
      ·clear h
       have HE:Hid (Mk.z1f n=true):=by show _=_;rw[HBB.out,q12];simp
       clear HBB;rw[q0];go_wp2_with fail;go_meet
       case rel=>exact⟨by rw[HE.out],rfl⟩
      clear h;have HE:Hid (Mk.z1f n=false):=by show _=_;rw[HBB.out,q0,q1,q2,q3,q4,q5,q6,q7,q8,q9,q10,q11,q12];rfl
      clear HBB;rw[q0];go_wp2_with fail;go_meet
      case rel=>exact⟨by rw[HE.out],rfl⟩
     case rest =>
     as_aux_lemma =>
     obtain⟨rfl,hwx⟩:=hcut;subst hwx
     cases hbr:Mk.z1f n with
     | true =>
      as_aux_lemma =>
      have hnil:a=[]:=by have:=HOK.out;rw[hbr,if_pos rfl] at this;exact of_decide_eq_true this
      subst hnil;clear hbr HOK;go_wp2_with fail;go_meet
      case rel=>exact Below.refl _ _
     | false =>
      as_aux_lemma =>
      have hr:=HOK.out;rw[hbr,if_neg (by decide),Bool.and_eq_true] at hr;have hall:=List.all_eq_true.1 hr.2;have hrich:n=[97]∨n=[105,109,103]:=by have:=hr.1;unfold Mk.richB at this;simpa using this
      have HALL:=Lib.hid hall;have HRI:=Lib.hid hrich;obtain⟨ao2,cap2,hsl,hcl⟩:=HVA.out.slice_at
      injection hsl with z1 z2 z3;subst z1;subst z3;have HCL:=Lib.hid hcl;clear hr hall hrich hbr HOK hcl z2;go_upto_region 22 with fail
      go_cut [39] (fun b wx=>b=.bool (n == [97])∧w1=wx)
      case first =>
       as_aux_lemma =>
       go_wp2_with fail;go_meet
       case rel=>exact⟨rfl,rfl⟩
      case rest =>
      as_aux_lemma =>
      obtain⟨rfl,hwx⟩:=hcut;subst hwx;go_upto_if 39 with fail
      go_cut [39] (fun b wx=>b=.bool true∧w1=wx)
      case first =>
       as_aux_lemma =>
       rcases HRI.out with h | h
       ·have q1:(n == [97])=true:=by rw[h];rfl
        rw[q1];clear h;go_wp2_with fail;go_meet
        case rel=>exact⟨rfl,rfl⟩
       ·have q1:(n == [97])=false:=by rw[h];rfl
        have q2:(n == [105,109,103])=true:=by rw[h];rfl
        rw[q1];clear h;go_wp2_with fail;go_meet
        case rel=>exact⟨rfl,rfl⟩
      case rest =>
      as_aux_lemma =>
      obtain⟨rfl,hwx⟩:=hcut;subst hwx;go_wp2_with fail
      go_loopw [5] (fun iv wx=>∃ i:Nat,i≤a.length∧iv=.int .i64 (i:Int)∧Hid (Below w1.heap.size w1 wx)) (fun iv _=>a.length - (intOf iv).toNat)
      case atStart=>exact⟨0,Nat.zero_le _,rfl,Below.refl _ _⟩
      case round =>
       obtain⟨i,hi,rfl,B2⟩:=hrel;rw[← B2.out.cell (p:=⟨T,_,none⟩) hTl] at d1
       by_cases hlt2:i < a.length
       ·as_aux_lemma =>
        obtain⟨g2,o2,hao,hKg2,x0,x1⟩:=HCL.out i hlt2;subst hao;rw[← B2.out.cell (p:=⟨g2,_,none⟩) (HKW.out g2 hKg2)] at x0 x1;have hokx:=HALL.out a[i] (List.getElem_mem hlt2);obtain⟨x,hx⟩:∃ x,a[i]=x:=⟨_,rfl⟩;rw[hx] at hokx x0 x1;obtain⟨nm,vv⟩:=x;have hii:(i:Int) < a.length:=by omega
        have hi0:(0:Int)≤i:=by omega
        have hal2:=(Below.refl wr.heap.size wr).alloc (Nat.le_refl _) (.cells #[.string (st nm),.string (st vv)] 56);have B3:=Lib.hid (B2.out.trans (hal2.mono B2.out.size));have PB2:=Lib.hid (Blk.new wr 56 #[.string (st nm),.string (st vv)]);have HX:=Lib.hid hokx;simp only at x0 x1;clear hokx hx hal2 HCL HALL HRI;go_upto_region 28 with fail;generalize (wr.alloc (.cells #[.string (st nm),.string (st vv)] 56))=w3 at B3 PB2 ⊢;generalize wr.heap.size=T2 at PB2 ⊢;clear B2 d1 x0 x1;have e0:w3.cell? ⟨T2,0,none⟩=some (.string (st nm)):=Blk.cell PB2.out 0;have e1:w3.cell? ⟨T2,1,none⟩=some (.string (st vv)):=Blk.cell PB2.out 1;have hT2:T2 < w3.heap.size:=Blk.lt PB2.out;have hxx:(nm=[116,105,116,108,101]∨nm=[97,108,116])∨((nm=[104,114,101,102]∨nm=[115,114,99])∧Mg.isSafe vv=true∧vv.length≤3000):=by
         have h:=HX.out;unfold Mk.okAt Mk.q66 Mk.z6b Mk.V3 at h
         simpa using h
        clear HX
        rcases hxx with (hx | hx) | ⟨hx,hs1,hs2⟩
        ·as_aux_lemma =>
         have pt:(nm == [116,105,116,108,101])=true:=by rw[hx];rfl
         have mt:(nm != [116,105,116,108,101])=false:=by rw[bne,pt];rfl
         have pl:(nm == [97,108,116])=false:=by rw[hx];rfl
         have ml:(nm != [97,108,116])=true:=by rw[bne,pl];rfl
         have ph:(nm == [104,114,101,102])=false:=by rw[hx];rfl
         have mh:(nm != [104,114,101,102])=true:=by rw[bne,ph];rfl
         have ps:(nm == [115,114,99])=false:=by rw[hx];rfl
         have ms:(nm != [115,114,99])=true:=by rw[bne,ps];rfl
         clear hx;go_wp2_with fail;go_roundw
         case rel=>exact⟨i + 1,by omega,by go_num,B3⟩
         case measure=>simp[intOf];omega
        ·as_aux_lemma =>
         have pt:(nm == [116,105,116,108,101])=false:=by rw[hx];rfl
         have mt:(nm != [116,105,116,108,101])=true:=by rw[bne,pt];rfl
         have pl:(nm == [97,108,116])=true:=by rw[hx];rfl
         have ml:(nm != [97,108,116])=false:=by rw[bne,pl];rfl
         have ph:(nm == [104,114,101,102])=false:=by rw[hx];rfl
         have mh:(nm != [104,114,101,102])=true:=by rw[bne,ph];rfl
         have ps:(nm == [115,114,99])=false:=by rw[hx];rfl
         have ms:(nm != [115,114,99])=true:=by rw[bne,ps];rfl
         clear hx;go_wp2_with fail;go_roundw
         case rel=>exact⟨i + 1,by omega,by go_num,B3⟩
         case measure=>simp[intOf];omega
        ·as_aux_lemma =>
         have hsf:=z6l (st vv) w3 (by rw[y9];exact hs2);rw[z0y,hs1] at hsf;have HSF:=Lib.hid hsf;clear hsf hs1
         rcases hx with hx | hx
         ·have pt:(nm == [116,105,116,108,101])=false:=by rw[hx];rfl
          have mt:(nm != [116,105,116,108,101])=true:=by rw[bne,pt];rfl
          have pl:(nm == [97,108,116])=false:=by rw[hx];rfl
          have ml:(nm != [97,108,116])=true:=by rw[bne,pl];rfl
          have ph:(nm == [104,114,101,102])=true:=by rw[hx];rfl
          have mh:(nm != [104,114,101,102])=false:=by rw[bne,ph];rfl
          have ps:(nm == [115,114,99])=false:=by rw[hx];rfl
          have ms:(nm != [115,114,99])=true:=by rw[bne,ps];rfl
          clear hx;go_wp2_with fail;refine HSF.out.mono ?_;rintro e w4 ⟨rfl,hb4⟩;have B4:=Lib.hid (B3.out.trans (hb4.mono B3.out.size));have e0:w4.cell? ⟨T2,0,none⟩=some (.string (st nm)):=(hb4.cell (p:=⟨T2,0,none⟩) hT2).trans e0;clear hb4 HSF e1;go_wp2_with fail;go_roundw
          case rel=>exact⟨i + 1,by omega,by go_num,B4⟩
          case measure=>simp[intOf];omega
         ·have pt:(nm == [116,105,116,108,101])=false:=by rw[hx];rfl
          have mt:(nm != [116,105,116,108,101])=true:=by rw[bne,pt];rfl
          have pl:(nm == [97,108,116])=false:=by rw[hx];rfl
          have ml:(nm != [97,108,116])=true:=by rw[bne,pl];rfl
          have ph:(nm == [104,114,101,102])=false:=by rw[hx];rfl
          have mh:(nm != [104,114,101,102])=true:=by rw[bne,ph];rfl
          have ps:(nm == [115,114,99])=true:=by rw[hx];rfl
          have ms:(nm != [115,114,99])=false:=by rw[bne,ps];rfl
          clear hx;go_wp2_with fail;refine HSF.out.mono ?_;rintro e w4 ⟨rfl,hb4⟩;have B4:=Lib.hid (B3.out.trans (hb4.mono B3.out.size));have e0:w4.cell? ⟨T2,0,none⟩=some (.string (st nm)):=(hb4.cell (p:=⟨T2,0,none⟩) hT2).trans e0;clear hb4 HSF e1;go_wp2_with fail;go_roundw
          case rel=>exact⟨i + 1,by omega,by go_num,B4⟩
          case measure=>simp[intOf];omega
       ·as_aux_lemma =>
        have hii:¬ (i:Int) < a.length:=by omega
        clear HCL HALL HRI;go_wp2_with fail;go_meet
        case rel=>exact B2
    case rest =>
    as_aux_lemma =>
    obtain⟨w2,hw2⟩:∃ x,x=wc:=⟨_,rfl⟩;subst hw2;have B2:=hcut;rw[← B2.out.cell (p:=⟨T,_,none⟩) hTl] at d3;have BL2:=Lib.hid (BL1.out.trans (B2.out.mono BL1.out.size));have IH2:=Lib.hid (IH.out w2 BL2.out);clear IH d0 d1 HOK HVA;go_wp2_with fail;refine IH2.out.mono ?_;rintro e w3 ⟨rfl,hb3⟩;have BL3:=Lib.hid (BL2.out.trans (hb3.mono BL2.out.size));clear hb3 IH2;go_wp2_with fail;go_roundw
    case rel=>exact⟨k + 1,by omega,by go_num,BL3⟩
    case measure=>simp[intOf];omega
   ·have hke:k=f.len:=by omega
    have hki:¬ (k:Int) < f.len:=by omega
    clear HV;go_wp2_with fail;go_ret;exact⟨rfl,BL.out⟩

def u0:Mg.U:=⟨[104,116,116,112],[97],[47,98,47,99,47,100,59,112],[113],[102],true,true,true,true⟩
abbrev t0:List UInt8:=[104,116,116,112,58,47,47,97,47,98,47,99,47,100,59,112,63,113,35,102]
theorem q9j (w:World):Calls Tryz.prog 73 #[.string (st t0)] w fun e w'=>e=.returned (.tuple #[uVal u0,.int .i64 0])∧Below w.heap.size w w':=by
 have h:=q90 (st t0) w (by decide);have e:Mg.split (st t0).data.toList=u0:=by decide +kernel
 rwa [e] at h
theorem j3r (w:World):Calls Tryz.prog 74 #[uVal u0] w fun e w'=>e=.returned (.tuple #[.string (st t0),.int .i64 0])∧Below w.heap.size w w':=by
 have h:=q8y u0 w (by decide) (by decide +kernel);have e:Mg.join u0=t0:=by decide +kernel
 rwa [e] at h
theorem j3q (w:World):Calls Tryz.prog 75 #[.string (st [47,97,47,98,47,99,47,46,47,46,46,47,46,46,47,103])] w fun e w'=>e=.returned (.tuple #[.string (st [47,97,47,103]),.int .i64 0])∧Below w.heap.size w w':=by
 have h:=j1b (st [47,97,47,98,47,99,47,46,47,46,46,47,46,46,47,103]) w (by decide);have e:Mg.dots (st [47,97,47,98,47,99,47,46,47,46,46,47,46,46,47,103]).data.toList=[47,97,47,103]:=by decide +kernel
 rwa [e] at h
theorem q5d (w:World):Calls Tryz.prog 76 #[.string (st [104,116,116,112,58,47,47,97,47,98,47,99,47,100,59,112,63,113]),.string (st [46,46,47,103,63,121,35,115])] w fun e w'=>e=.returned (.tuple #[.string (st [104,116,116,112,58,47,47,97,47,98,47,103,63,121,35,115]),.int .i64 0])∧Below w.heap.size w w':=by
 have h:=z8f (st [104,116,116,112,58,47,47,97,47,98,47,99,47,100,59,112,63,113]) (st [46,46,47,103,63,121,35,115]) w (by decide) (by decide) (by decide +kernel) (by decide +kernel);have e:Mg.join (Mg.resU (Mg.split (st [104,116,116,112,58,47,47,97,47,98,47,99,47,100,59,112,63,113]).data.toList) (Mg.split (st [46,46,47,103,63,121,35,115]).data.toList))=[104,116,116,112,58,47,47,97,47,98,47,103,63,121,35,115]:=by decide +kernel
 rwa [e] at h
theorem q9h (w:World):Calls Tryz.prog 35 #[.string (st [74,97,118,97,83,99,114,105,112,116,58,120])] w fun e w'=>e=.returned (.tuple #[.bool false,.int .i64 0])∧Below w.heap.size w w':=by
 have h:=z6l (st [74,97,118,97,83,99,114,105,112,116,58,120]) w (by decide);have e:Mg.isSafe (st [74,97,118,97,83,99,114,105,112,116,58,120]).data.toList=false:=by decide +kernel
 rwa [e] at h
theorem q9i (w:World):Calls Tryz.prog 35 #[.string (st [32,104,116,10,116,112,115,58,47,47,120])] w fun e w'=>e=.returned (.tuple #[.bool true,.int .i64 0])∧Below w.heap.size w w':=by
 have h:=z6l (st [32,104,116,10,116,112,115,58,47,47,120]) w (by decide);have e:Mg.isSafe (st [32,104,116,10,116,112,115,58,47,47,120]).data.toList=true:=by decide +kernel
 rwa [e] at h

theorem q7u (w:World) :
  Calls Tryz.prog 30 #[] w fun e w'=>e=.returned (.bool true)∧Below w.heap.size w w':=by
 go_enter Tryz.func30,Tryz.ntmps30;go_wp2_with fail;refine(q9j _).mono ?_;rintro e w1 ⟨rfl,hb1⟩;unfold uVal u0;go_wp2_with fail;change Calls _ _ #[uVal u0] (w1.alloc (.cells (z00 u0) 125)) _;have hbk:=Blk.new w1 125 (z00 u0);have hbl:=hb1.alloc hb1.size (.cells (z00 u0) 125);generalize w1.alloc (.cells (z00 u0) 125)=w2 at hbk hbl ⊢;generalize w1.heap.size=B at hbk ⊢;refine(j3r _).mono ?_;rintro e w3 ⟨rfl,hb3⟩;have k3:=hbk.below hb3 hbk.lt;have l3:=hbl.trans (hb3.mono hbl.size);clear hb1 hbk hbl hb3;go_wp2_with fail;refine(j3q _).mono ?_;rintro e w4 ⟨rfl,hb4⟩;have k4:=k3.below hb4 k3.lt;have l4:=l3.trans (hb4.mono l3.size);clear k3 l3 hb4;go_wp2_with fail;refine(q5d _).mono ?_;rintro e w5 ⟨rfl,hb5⟩;have k5:=k4.below hb5 k4.lt;have l5:=l4.trans (hb5.mono l4.size);clear k4 l4 hb5;go_wp2_with fail;refine(q9h _).mono ?_;rintro e w6 ⟨rfl,hb6⟩;have k6:=k5.below hb6 k5.lt;have l6:=l5.trans (hb6.mono l5.size);clear k5 l5 hb6;go_wp2_with fail;refine(q9i _).mono ?_;rintro e w7 ⟨rfl,hb7⟩;have k7:=k6.below hb7 k6.lt;have l7:=l6.trans (hb7.mono l6.size);clear k6 l6 hb7;have c1:w7.cell? ⟨B,1,none⟩=some (.string (st [97])):=k7.cell 1;have c2:w7.cell? ⟨B,2,none⟩=some (.string (st [47,98,47,99,47,100,59,112])):=k7.cell 2;have c4:w7.cell? ⟨B,4,none⟩=some (.string (st [102])):=k7.cell 4;have hst:∀ l,(st l).toList=l:=fun l=>Lib.toList_data _
 go_wp2_with fail;go_ret;exact⟨rfl,l7⟩
end Go.Proofs.YtjonkbdldebkiaaGreatDoor
namespace Mk
open Fo
def bo:Nat→List Tok→List Bs→Fo→Fo × List Tok × Nat
 | 0,l,op,out=>(out,l,op.length)
 | _ + 1,[],op,out=>(out,[],op.length)
 | n + 1,t :: r,op,out =>
  if t.kind=1 then bo n r op (snoc [] [] t.text nil out)
  else if t.kind=3 then
   match above t.name (fun _=>false) op with
   | none=>bo n r op out
   | some i=>(out,r,i)
  else if stays op t.name < op.length then (out,t :: r,stays op t.name)
  else if op.length=8 then bo n r op out
  else if z09 t.name then bo n r op (out.app (node t.name t.ats [] nil nil))
  else
   let x:=bo n r (op++[t.name]) nil
   if x.2.2 < op.length then (out.app (node t.name t.ats [] x.1 nil),x.2)
   else bo n x.2.1 op (out.app (node t.name t.ats [] x.1 nil))
def NmOk:List Bs→Prop | []=>True | n :: r=>Fine r n∧NmOk r
theorem q9v (x:Bs) (q:Bs→Bool):∀ (l r:List Bs),NmOk l→z0e x q l=some r→Fine r x∧NmOk r
 | [],_,_,h=>by cases h
 | o :: l,r,ho,h=>by
  unfold z0e at h
  by_cases e:o=x
  ·rw[if_pos e] at h
   injection h with h;subst h;subst e;exact ho
  ·rw[if_neg e] at h
   by_cases e2:q o=true
   ·rw[if_pos e2] at h;cases h
   ·rw[if_neg e2] at h
    exact q9v x q l r ho.2 h
theorem stays_nm (l:List Bs) (n:Bs) (h:NmOk l):Fine (z0q l n) n∧NmOk (z0q l n):=by
 by_cases hb:z1p n=true
 ·unfold z0q
  simp only [hb,if_true];have key:z0e [112] z1i ((z0e [112] z1i l).getD l)=none∧NmOk ((z0e [112] z1i l).getD l):=by
   cases hf:z0e [112] z1i l with
   | none=>exact⟨hf,h⟩
   | some r =>
    obtain⟨f1,f2⟩:=q9v _ _ l r h hf;exact⟨f1.1 (by decide),f2⟩
  obtain⟨k1,k2⟩:=key;generalize (z0e [112] z1i l).getD l=m at k1 k2 ⊢
  by_cases hl:n=li
  ·rw[if_pos (by simpa using hl)]
   cases hf:z0e li z4r m with
   | none=>exact⟨⟨fun _=>k1,fun _=>hf⟩,k2⟩
   | some r =>
    obtain⟨f1,f2⟩:=q9v _ _ m r k2 hf;rw[hl];exact⟨f1,f2⟩
  ·rw[if_neg (by simpa using hl)]
   exact⟨⟨fun _=>k1,fun q=>absurd q hl⟩,k2⟩
 ·have e:z0q l n=l:=by
   unfold z0q;rw[if_neg hb];simp only;rw[if_neg];intro q;exact hb (by rw[show n=li by simpa using q];decide)
  rw[e];exact⟨⟨fun q=>absurd q hb,fun q=>absurd (by rw[q];decide) hb⟩,h⟩
namespace Bld
theorem q7b:∀ (m:Nat) (root:Fo) (ops:List Op),m≤ops.length→∃ root' ops',z2c m (R root ops)=R root' ops'∧ops'.map (·.name)=(ops.map (·.name)).drop m
 | 0,root,ops,_=>⟨root,ops,rfl,rfl⟩
 | m + 1,root,[],hm=>by simp at hm
 | m + 1,root,o :: r,hm=>by
  obtain⟨root',ops',e,q⟩:=q7b m (rs root r (snoc o.name o.ats [] o.kids (cur root r))) (os r (snoc o.name o.ats [] o.kids (cur root r))) (by rw[z4q];simpa using hm);refine⟨root',ops',?_,?_⟩
  ·show z2c m (R root (o :: r)).pop=_
   rw[pop_R,z3d];exact e
  ·rw[q]
   cases r <;> rfl
theorem z3j (root:Fo) (ops:List Op):(R root ops).close ops.length=R root ops:=by
 unfold close;rw[z6m,Nat.sub_self];rfl
theorem q2b (root:Fo) (o:Op) (r:List Op) (m:Nat) (hm:m≤r.length):(R root (o :: r)).close m=((R root r).z3v o.name o.ats [] o.kids).close m:=by
 unfold close;rw[z6m,z3d,z6m,z4q,← z3d,List.length_cons,Nat.succ_sub hm];show z2c _ (R root (o :: r)).pop=_;rw[pop_R]
theorem j0z (root:Fo) (ops:List Op) (t:Tok) (hk:t.kind=2) (hn:NmOk (ops.map (·.name))):(R root ops).token t=((R root ops).close (stays (nmOf ops) t.name)).token t:=by
 have hsl:stays (nmOf ops) t.name=(z0q (ops.map (·.name)) t.name).length:=z6i _ _;have hdrop:=z8t (ops.map (·.name)) t.name;rw[List.length_map] at hdrop;obtain⟨root',ops',e,q⟩:=q7b (ops.length - (z0q (ops.map (·.name)) t.name).length) root ops (Nat.sub_le _ _);have hf:=(stays_nm _ t.name hn).1;have hcl:(R root ops).close (stays (nmOf ops) t.name)=R root' ops':=by
  unfold close;rw[z6m,hsl];exact e
 have hq:ops'.map (·.name)=z0q (ops.map (·.name)) t.name:=by rw[q,← hdrop]
 have h2:(R root' ops').close (stays (nmOf ops') t.name)=R root' ops':=by
  have:stays (nmOf ops') t.name=ops'.length:=by
   rw[show stays (nmOf ops') t.name=(z0q (ops'.map (·.name)) t.name).length from z6i _ _,hq,q00 hf,← hq,List.length_map]
  rw[this,z3j]
 rw[hcl];unfold token;have h1:¬ t.kind=1:=by rw[hk];decide
 simp only [if_neg h1,if_pos hk,q06,hcl,h2]
end Bld
open Bld
theorem j7m:∀ (n:Nat) (l:List Tok) (root:Fo) (ops:List Op),l.length≤n→(∀ t ∈ l,z3m t)→NmOk (ops.map (·.name)) →
  ((bo n l (nmOf ops) (cur root ops)).2.2 < ops.length∨((bo n l (nmOf ops) (cur root ops)).2.2=ops.length∧(bo n l (nmOf ops) (cur root ops)).2.1=[])) ∧
  (∃ p,l=p++(bo n l (nmOf ops) (cur root ops)).2.1) ∧
  (l.foldl token (R root ops)).close 0=((bo n l (nmOf ops) (cur root ops)).2.1.foldl token ((R (rs root ops (bo n l (nmOf ops) (cur root ops)).1) (os ops (bo n l (nmOf ops) (cur root ops)).1)).close (bo n l (nmOf ops) (cur root ops)).2.2)).close 0
 | 0,[],root,ops,_,_,_=>by
  refine⟨.inr ⟨z7b ops,rfl⟩,⟨[],rfl⟩,?_⟩;show (R root ops).close 0=((R (rs root ops (cur root ops)) (os ops (cur root ops))).close (nmOf ops).length).close 0;rw[z7b,← z4q ops (cur root ops),z3j]
  cases ops <;> rfl
 | n + 1,[],root,ops,_,_,_=>by
  refine⟨.inr ⟨z7b ops,rfl⟩,⟨[],rfl⟩,?_⟩;show (R root ops).close 0=((R (rs root ops (cur root ops)) (os ops (cur root ops))).close (nmOf ops).length).close 0;rw[z7b,← z4q ops (cur root ops),z3j]
  cases ops <;> rfl
 | n + 1,t :: r,root,ops,hl,ht,hn=>by
  have hl':r.length≤n:=by simpa using hl
  have ht':∀ x ∈ r,z3m x:=fun x q=>ht x (by simp[q])
  have go:∀ (f:Fo) (l2:List Tok),l2.length≤n→(∀ x ∈ l2,z3m x) →
    ((bo n l2 (nmOf ops) f).2.2 < ops.length∨((bo n l2 (nmOf ops) f).2.2=ops.length∧(bo n l2 (nmOf ops) f).2.1=[])) ∧
    (∃ p,l2=p++(bo n l2 (nmOf ops) f).2.1) ∧
    (l2.foldl token (R (rs root ops f) (os ops f))).close 0=((bo n l2 (nmOf ops) f).2.1.foldl token ((R (rs root ops (bo n l2 (nmOf ops) f).1) (os ops (bo n l2 (nmOf ops) f).1)).close (bo n l2 (nmOf ops) f).2.2)).close 0:=fun f l2 h1 h2=>by
   have h:=j7m n l2 (rs root ops f) (os ops f) h1 h2 (by cases ops <;> exact hn);rw[j7v,nm_set,z4q,rs_set,os_set] at h;exact h
  have hstay:R root ops=R (rs root ops (cur root ops)) (os ops (cur root ops)):=by cases ops <;> rfl
  rcases ht t (by simp) with ⟨k,_,_,hx⟩ | ⟨k,hnm,ha,_⟩ | ⟨k,hnm,_,_⟩
  ·have e:bo (n + 1) (t :: r) (nmOf ops) (cur root ops)=bo n r (nmOf ops) (snoc [] [] t.text nil (cur root ops)):=by
    rw[bo,if_pos k]
   rw[e,List.foldl_cons];have et:(R root ops).token t=R (rs root ops (snoc [] [] t.text nil (cur root ops))) (os ops (snoc [] [] t.text nil (cur root ops))):=by
    unfold token;rw[if_pos k,z3d]
   rw[et];obtain⟨g1,⟨p,g2⟩,g3⟩:=go (snoc [] [] t.text nil (cur root ops)) r hl' ht';exact⟨g1,⟨t :: p,by rw[List.cons_append,← g2]⟩,g3⟩
  ·have hne:=j9p hnm
   have hsn:∀ kk,snoc t.name t.ats [] kk (cur root ops)=(cur root ops).app (node t.name t.ats [] kk nil):=fun kk=>z9i _ _ _ _ _ (fun q=>hne q.1)
   have hsle:stays (nmOf ops) t.name≤ops.length:=by
    rw[show stays (nmOf ops) t.name=(z0q (ops.map (·.name)) t.name).length from z6i _ _,z8t,List.length_drop,List.length_map];exact Nat.sub_le _ _
   by_cases hs:stays (nmOf ops) t.name < (nmOf ops).length
   ·have e:bo (n + 1) (t :: r) (nmOf ops) (cur root ops)=(cur root ops,t :: r,stays (nmOf ops) t.name):=by
     rw[bo,if_neg (by rw[k];decide),if_neg (by rw[k];decide),if_pos hs]
    rw[e];refine⟨.inl (by rwa [z7b] at hs),⟨[],rfl⟩,?_⟩;show _=(List.foldl token ((R (rs root ops (cur root ops)) (os ops (cur root ops))).close (stays (nmOf ops) t.name)) (t :: r)).close 0;rw[← hstay,List.foldl_cons,List.foldl_cons,j0z root ops t k hn]
   ·have hseq:stays (nmOf ops) t.name=ops.length:=by rw[z7b] at hs;omega
    have hfine:Fine (ops.map (·.name)) t.name:=q4u (by
     rw[show stays (nmOf ops) t.name=(z0q (ops.map (·.name)) t.name).length from z6i _ _] at hseq;rw[hseq,List.length_map];exact Nat.le_refl _)
    have hcl:(R root ops).close (stays (R root ops).names t.name)=R root ops:=by rw[q06,hseq,z3j]
    have et:(R root ops).token t=if ops.length=8 then R root ops else if z09 t.name=true then (R root ops).z3v t.name t.ats [] nil else R root (⟨t.name,t.ats,nil⟩ :: ops):=by
     unfold token;rw[if_neg (by rw[k];decide),if_pos k];simp only [hcl,z6m,j9y]
    rw[List.foldl_cons,et]
    by_cases h8:ops.length=8
    ·have e:bo (n + 1) (t :: r) (nmOf ops) (cur root ops)=bo n r (nmOf ops) (cur root ops):=by
      rw[bo,if_neg (by rw[k];decide),if_neg (by rw[k];decide),if_neg hs,if_pos (by rw[z7b];exact h8)]
     rw[e,if_pos h8];obtain⟨g1,⟨p,g2⟩,g3⟩:=go (cur root ops) r hl' ht';rw[← hstay] at g3;exact⟨g1,⟨t :: p,by rw[List.cons_append,← g2]⟩,g3⟩
    rw[if_neg h8]
    by_cases he:z09 t.name=true
    ·have e:bo (n + 1) (t :: r) (nmOf ops) (cur root ops)=bo n r (nmOf ops) ((cur root ops).app (node t.name t.ats [] nil nil)):=by
      rw[bo,if_neg (by rw[k];decide),if_neg (by rw[k];decide),if_neg hs,if_neg (by rw[z7b];exact h8),if_pos he]
     rw[e,if_pos he,z3d,hsn];obtain⟨g1,⟨p,g2⟩,g3⟩:=go ((cur root ops).app (node t.name t.ats [] nil nil)) r hl' ht';exact⟨g1,⟨t :: p,by rw[List.cons_append,← g2]⟩,g3⟩
    ·rw[if_neg he]
     have ih:((bo n r (nmOf ops++[t.name]) nil).2.2 < ops.length + 1∨((bo n r (nmOf ops++[t.name]) nil).2.2=ops.length + 1∧(bo n r (nmOf ops++[t.name]) nil).2.1=[]))∧(∃ p,r=p++(bo n r (nmOf ops++[t.name]) nil).2.1)∧(r.foldl token (R root (⟨t.name,t.ats,nil⟩ :: ops))).close 0=(List.foldl token ((R root (⟨t.name,t.ats,(bo n r (nmOf ops++[t.name]) nil).1⟩ :: ops)).close (bo n r (nmOf ops++[t.name]) nil).2.2) (bo n r (nmOf ops++[t.name]) nil).2.1).close 0:=by
      have h:=j7m n r root (⟨t.name,t.ats,nil⟩ :: ops) hl' ht' ⟨hfine,hn⟩;rw[j0a] at h;exact h
     obtain⟨i1,⟨p,i2⟩,i3⟩:=ih;have e:bo (n + 1) (t :: r) (nmOf ops) (cur root ops)=if (bo n r (nmOf ops++[t.name]) nil).2.2 < (nmOf ops).length then ((cur root ops).app (node t.name t.ats [] (bo n r (nmOf ops++[t.name]) nil).1 nil),(bo n r (nmOf ops++[t.name]) nil).2) else bo n (bo n r (nmOf ops++[t.name]) nil).2.1 (nmOf ops) ((cur root ops).app (node t.name t.ats [] (bo n r (nmOf ops++[t.name]) nil).1 nil)):=by
      rw[bo,if_neg (by rw[k];decide),if_neg (by rw[k];decide),if_neg hs,if_neg (by rw[z7b];exact h8),if_neg he]
     rw[e,i3];generalize bo n r (nmOf ops++[t.name]) nil=x at i1 i2 ⊢;obtain⟨kids,l2,left⟩:=x;simp only at i1 i2 ⊢;rw[z7b]
     by_cases hlt:left < ops.length
     ·rw[if_pos hlt]
      refine⟨.inl hlt,⟨t :: p,by rw[List.cons_append,← i2]⟩,?_⟩;rw[q2b _ _ _ _ (Nat.le_of_lt hlt),z3d,hsn]
     ·rw[if_neg hlt]
      have hl2:l2.length≤n:=by
       have:=congrArg List.length i2;rw[List.length_append] at this;omega
      obtain⟨g1,⟨p2,g2⟩,g3⟩:=go ((cur root ops).app (node t.name t.ats [] kids nil)) l2 hl2 (fun x q=>ht' x (by rw[i2];simp[q]));refine⟨g1,⟨t :: (p++p2),by rw[List.cons_append,List.append_assoc,← g2,← i2]⟩,?_⟩;rw[← g3]
      rcases i1 with q | ⟨q,q2⟩
      ·have:left=ops.length:=by omega
       rw[this,q2b _ _ _ _ (Nat.le_refl _),z3d,hsn]
       congr 2
       have:=z3j (rs root ops ((cur root ops).app (node t.name t.ats [] kids nil))) (os ops ((cur root ops).app (node t.name t.ats [] kids nil)));rw[z4q] at this;exact this
      ·subst q2
       rw[q];have:=z3j root (⟨t.name,t.ats,kids⟩ :: ops);rw[List.length_cons] at this;rw[this];show (R root (⟨t.name,t.ats,kids⟩ :: ops)).close 0=(R _ _).close 0;rw[q2b _ _ _ _ (Nat.zero_le _),z3d,hsn]
  ·rw[List.foldl_cons]
   have et:(R root ops).token t=match above t.name (fun _=>false) (nmOf ops) with | none=>R root ops | some i=>(R root ops).close i:=by
    unfold token;rw[if_neg (by rw[k];decide),if_neg (by rw[k];decide),if_pos k,q06]
    cases above t.name (fun _=>false) (nmOf ops) <;> rfl
   have e:bo (n + 1) (t :: r) (nmOf ops) (cur root ops)=match above t.name (fun _=>false) (nmOf ops) with | none=>bo n r (nmOf ops) (cur root ops) | some i=>(cur root ops,r,i):=by
    rw[bo,if_neg (by rw[k];decide),if_pos k]
   rw[e,et]
   cases ha:above t.name (fun _=>false) (nmOf ops) with
   | none =>
    obtain⟨g1,⟨p,g2⟩,g3⟩:=go (cur root ops) r hl' ht';rw[← hstay] at g3;exact⟨g1,⟨t :: p,by rw[List.cons_append,← g2]⟩,g3⟩
   | some i =>
    have hi:i < ops.length:=by
     have:above t.name (fun _=>false) (nmOf ops)=(z0e t.name (fun _=>false) (ops.map (·.name))).map List.length:=by
      unfold above nmOf;rw[List.reverse_reverse,z8h]
     rw[this] at ha
     cases hf:z0e t.name (fun _=>false) (ops.map (·.name)) with
     | none=>rw[hf] at ha;cases ha
     | some m =>
      rw[hf] at ha;injection ha with ha;obtain⟨m2,e2⟩:=z6y _ _ _ _ hf;have:=congrArg List.length e2;simp at this;omega
    exact⟨.inl hi,⟨[t],rfl⟩,by show _=(List.foldl token ((R (rs root ops (cur root ops)) (os ops (cur root ops))).close i) r).close 0;rw[← hstay]⟩
theorem bo_build (l:List Tok) (n:Nat) (hn:l.length≤n) (h:∀ t ∈ l,z3m t):(bo n l [] nil).1=build l:=by
 obtain⟨h1,_,h3⟩:=j7m n l nil [] hn h trivial;have h4:(bo n l [] nil).2.2=0∧(bo n l [] nil).2.1=[]:=by
  rcases h1 with q | q
  ·simp at q
  ·exact q
 change (l.foldl token (R nil [])).close 0=(List.foldl token ((R (bo n l [] nil).1 []).close (bo n l [] nil).2.2) (bo n l [] nil).2.1).close 0 at h3;rw[h4.1,h4.2] at h3;unfold build;show _=((l.foldl token (R nil [])).close 0).root;rw[h3];rfl
end Mk
namespace Mk
open Fo
theorem z8w:∀ (n:Nat) (l:List Tok) (op:List Bs) (out:Fo),(bo n l op out).2.1.length≤l.length
 | 0,l,op,out=>Nat.le_refl _
 | n + 1,[],op,out=>Nat.le_refl _
 | n + 1,t :: r,op,out=>by
  rw[bo]
  split
  ·exact Nat.le_succ_of_le (z8w n r _ _)
  split
  ·split
   ·exact Nat.le_succ_of_le (z8w n r _ _)
   ·exact Nat.le_succ _
  split
  ·exact Nat.le_refl _
  split
  ·exact Nat.le_succ_of_le (z8w n r _ _)
  split
  ·exact Nat.le_succ_of_le (z8w n r _ _)
  have h1:=z8w n r (op++[t.name]) nil;simp only
  split
  ·exact Nat.le_succ_of_le h1
  ·exact Nat.le_succ_of_le (Nat.le_trans (z8w n _ _ _) h1)
theorem q9k:∀ (n m:Nat) (l:List Tok) (op:List Bs) (out:Fo),l.length≤n→l.length≤m→bo n l op out=bo m l op out
 | 0,m,l,op,out,h,_=>by
  have:l=[]:=List.eq_nil_of_length_eq_zero (by omega);subst this
  cases m <;> rfl
 | n + 1,m,[],op,out,_,_=>by cases m <;> rfl
 | n + 1,0,t :: r,op,out,_,h=>by simp at h
 | n + 1,m + 1,t :: r,op,out,h1,h2=>by
  have h1:r.length≤n:=by simpa using h1
  have h2:r.length≤m:=by simpa using h2
  have hk:=z8w m r (op++[t.name]) nil;rw[bo,bo];simp only [q9k n m r _ _ h1 h2];rw[q9k n m (bo m r (op++[t.name]) nil).2.1 op _ (by omega) (by omega)]
def boR (l:List Tok) (op:List Bs) (out:Fo):Fo × List Tok × Nat:=bo l.length l op out
theorem boR_len (l:List Tok) (op:List Bs) (out:Fo):(boR l op out).2.1.length≤l.length:=z8w _ _ _ _
theorem boR_cons (t:Tok) (r:List Tok) (op:List Bs) (out:Fo):boR (t :: r) op out =
  if t.kind=1 then boR r op (snoc [] [] t.text nil out)
  else if t.kind=3 then
   match above t.name (fun _=>false) op with
   | none=>boR r op out
   | some i=>(out,r,i)
  else if stays op t.name < op.length then (out,t :: r,stays op t.name)
  else if op.length=8 then boR r op out
  else if z09 t.name then boR r op (out.app (node t.name t.ats [] nil nil))
  else if (boR r (op++[t.name]) nil).2.2 < op.length then (out.app (node t.name t.ats [] (boR r (op++[t.name]) nil).1 nil),(boR r (op++[t.name]) nil).2)
   else boR (boR r (op++[t.name]) nil).2.1 op (out.app (node t.name t.ats [] (boR r (op++[t.name]) nil).1 nil)):=by
 show bo (r.length + 1) (t :: r) op out=_;rw[bo];simp only;have h:=z8w r.length r (op++[t.name]) nil;rw[q9k r.length (boR r (op++[t.name]) nil).2.1.length (bo r.length r (op++[t.name]) nil).2.1 op _ h (Nat.le_refl _)];rfl
theorem j7l (l:List Tok) (h:∀ t ∈ l,Bld.z3m t):(boR l [] nil).1=build l:=bo_build l l.length (Nat.le_refl _) h
end Mk
namespace Mk
open Fo Bld
theorem z9p:∀ (f g:Fo),(f.app g).count=f.count + g.count
 | .nil,g=>by show g.count=0 + g.count;omega
 | .node n a t k r,g=>by
  have:=z9p r g;show k.count + (r.app g).count + 1=k.count + r.count + 1 + g.count;omega
theorem z3q:∀ (N:Nat) (l:List Tok) (op:List Bs) (out:Fo),l.length≤N→(boR l op out).1.count + (boR l op out).2.1.length≤out.count + l.length
 | _,[],op,out,_=>Nat.le_refl _
 | 0,t :: r,op,out,h=>by simp at h
 | N + 1,t :: r,op,out,h=>by
  have h:r.length≤N:=by simpa using h
  have e0:Fo.count .nil=0:=rfl;rw[boR_cons,List.length_cons]
  split
  ·have h1:=z3q N r op (snoc [] [] t.text nil out) h
   have h2:=z5f [] [] t.text nil out;omega
  split
  ·split
   ·have h1:=z3q N r op out h
    omega
   ·simp only;omega
  split
  ·exact Nat.le_refl _
  split
  ·have h1:=z3q N r op out h
   omega
  split
  ·have h1:=z3q N r op (out.app (node t.name t.ats [] nil nil)) h
   have h2:=z9p out (node t.name t.ats [] nil nil);have h3:(node t.name t.ats [] nil nil).count=0 + 0 + 1:=rfl;omega
  have h1:=z3q N r (op++[t.name]) nil h;have hl:=boR_len r (op++[t.name]) nil;generalize boR r (op++[t.name]) nil=x at h1 hl ⊢;have h2:=z9p out (node t.name t.ats [] x.1 nil);have h3:(node t.name t.ats [] x.1 nil).count=x.1.count + 0 + 1:=rfl
  split
  ·simp only;omega
  ·have h4:=z3q N x.2.1 op (out.app (node t.name t.ats [] x.1 nil)) (by omega)
   omega
theorem q9l (l:List Tok) (h:∀ t ∈ l,z3m t):(build l).count≤l.length:=by
 have h1:=z3q l.length l [] nil (Nat.le_refl _);rw[j7l l h] at h1;have e0:Fo.count .nil=0:=rfl;omega
theorem q77 (l:List Tok) (h:∀ t ∈ l,z3m t) (hl:l.length≤3000):z4x (build l)=0:=by
 obtain⟨h1,h2⟩:=q1f l h;have h3:=q9l l h;have h4:=size_to _ 8 (z2f _ [] false h1) h2;unfold z4x;rw[h4,if_neg (by simp only;omega)];exact h1
end Mk
