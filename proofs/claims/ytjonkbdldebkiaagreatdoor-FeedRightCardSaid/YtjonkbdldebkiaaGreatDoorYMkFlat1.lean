/- Contract of the program's Tokens: the tokens of a tree. Condition: at most 1099511627776 nodes, attributes and letters together. -/
import Derived.Test.YtjonkbdldebkiaaGreatDoorYMkTree14
import Derived.Laws.AppendOwnNone
import Derived.Test.YtjonkbdldebkiaaGreatDoorYUrlD
import Derived.Deep.RegionLaw
import Derived.Deep.RegionHeld3
import Derived.Deep.LoopGhost
import Derived.Lib.ConvBytes
set_option linter.unusedVariables false
set_option linter.unusedSimpArgs false
set_option maxHeartbeats 16000000
set_option maxRecDepth 100000
namespace Mk
def z5z (n:Bs) (a:List At) (t:Bs) (k:Fo):List Tok:=if n=[] then [⟨1,[],[],t⟩] else ⟨2,n,a,[]⟩ :: (if z09 n then [] else flat k++[⟨3,n,[],[]⟩])
theorem q2n (n:Bs) (a:List At) (t:Bs) (k r:Fo):flat (.node n a t k r)=z5z n a t k++flat r:=by
 unfold z5z;rw[flat]
 split
 ·rfl
 ·simp
theorem q5w:∀ f:Fo,(flat f).length≤2 * f.bulk
 | .nil=>Nat.zero_le _
 | .node n a t k r=>by
  have h1:=q5w k;have h2:=q5w r;have e:Fo.bulk (.node n a t k r)=1 + n.length + t.length + Fo.atB a + Fo.bulk k + Fo.bulk r:=rfl;rw[q2n,List.length_append,e];unfold z5z
  split
  ·simp;omega
  ·split
   ·simp;omega
   ·simp;omega
end Mk
namespace Go.Proofs.YtjonkbdldebkiaaGreatDoor
open Go.RowKit
theorem z0v.app {w:World} {K:Nat→Prop} {m:List Mk.Tok} {ys:List Value} (h2:z0v w K m ys):∀ {l:List Mk.Tok} {xs:List Value},z0v w K l xs→z0v w K (l++m) (xs++ys)
 | [],_,h=>by rw[h];exact h2
 | _ :: _,_,⟨va,zs,e1,e2,e3⟩=>⟨va,_,by rw[e1,List.append_assoc],e2,z0v.app h2 e3⟩
theorem z0v.one {w:World} {K:Nat→Prop}:∀ {l:List Mk.Tok} {xs:List Value},z0v w K l xs→∀ u ∈ xs,u.oneCell'=true
 | [],_,h,u,hu=>by rw[h] at hu;cases hu
 | _ :: _,_,⟨va,zs,e1,⟨ao,cap,e2,_⟩,e3⟩,u,hu=>by
  rw[e1] at hu
  rcases List.mem_append.1 hu with q | q
  ·simp at q
   rcases q with rfl | rfl | rfl | rfl
   ·rfl
   ·rfl
   ·rw[e2];rfl
   ·rfl
  ·exact e3.one u q
def KO (B:Nat) (w:World) (v:Value) (b:Nat):Prop:=B≤b∧b < w.heap.size∧v.ownBlock ≠ some b
structure OwnT (w:World) (B:Nat) (v:Value) (l:List Mk.Tok) (xs:List Value):Prop where
 own:w.ownsRow B 181 4 v l.length xs
 cells:z0v w (KO B w v) l xs
theorem OwnT.below {w w':World} {B:Nat} {v:Value} {l:List Mk.Tok} {xs:List Value} (h:OwnT w B v l xs) (hb:Below w.heap.size w w'):OwnT w' B v l xs :=
 ⟨z0l h.own (fun g e=>hb.block g (h.own.lt g e).2),h.cells.frame fun b q=>⟨⟨q.1,Nat.lt_of_lt_of_le q.2.1 hb.size,q.2.2⟩,hb.block b q.2.1⟩⟩
theorem OwnT.more {w w9 w10:World} {B:Nat} {v v':Value} {l l2:List Mk.Tok} {xs zs:List Value} (h:OwnT w B v l xs) (hb:Below w.heap.size w w9) (hown:w10.ownsRow B 181 4 v' (l.length + l2.length) (xs++zs)) (hg:w9.grownBy w10 v.ownBlock) (hf:v'.ownBlock=v.ownBlock∨v'.ownBlock=some w9.heap.size) (hz:z0v w9 (KO B w9 v) l2 zs):OwnT w10 B v' (l++l2) (xs++zs):=by
 have key:∀ b,KO B w9 v b→KO B w10 v' b∧w10.heap[b]? = w9.heap[b]?:=by
  rintro b ⟨q1,q2,q3⟩;refine⟨⟨q1,Nat.lt_of_lt_of_le q2 hg.size,fun e=>?_⟩,hg.block b q2 (fun e=>q3 e.symm)⟩
  rcases hf with e' | e'
  ·rw[e'] at e;exact q3 e
  ·rw[e'] at e;injection e with e;omega
 refine⟨by rw[List.length_append];exact hown,z0v.app (hz.frame key) (h.cells.frame fun b q=>?_)⟩;have q9:KO B w9 v b:=⟨q.1,Nat.lt_of_lt_of_le q.2.1 hb.size,q.2.2⟩;exact⟨(key b q9).1,(key b q9).2.trans (hb.block b q.2.1)⟩
theorem OwnT.toksV {w:World} {B:Nat} {v:Value} {l:List Mk.Tok} {xs:List Value} (h:OwnT w B v l xs):z9o w (fun g=>B≤g∧g < w.heap.size) v l:=by
 obtain⟨ao,cap,h1,h2,_,h4⟩:=z2e.of_own (K:=fun g=>B≤g∧g < w.heap.size) h.own (fun g e=>h.own.lt g e);exact⟨ao,cap,xs,h1,h2,h.cells.frame fun b q=>⟨⟨q.1,q.2.1⟩,rfl⟩,h4⟩
def TokensC (f:Mk.Fo):Prop:=∀ (v:Value) (K:Nat→Prop) (w:World),FoV w K v f→(∀ b,K b→b < w.heap.size)→Calls Tryz.prog 99 #[v] w fun e w'=>∃ v' xs,e=.returned v'∧OwnT w' w.heap.size v' (Mk.flat f) xs∧(Mk.flat f=[]→v'=.slice none 0 0)∧Below w.heap.size w w'
theorem q8u (N:Nat):∀ (f:Mk.Fo),f.bulk < N→f.bulk≤549755813888→TokensC f:=by
 induction N with
 | zero=>intro f hN;omega
 | succ N ih =>
  intro f hN hf v K w hv hK;obtain⟨gm,o,cap,hv1,hlen,hat⟩:=hv.at_
  have HAT:=Lib.hid hat
  have hst:∀ l:List UInt8,(st l).toList=l:=fun l=>Lib.toList_data _
  have hfl:=Mk.q5w f;have hgl:=Mk.Fo.z0k f;clear hat
  rcases hv1 with ⟨hv1,hKg⟩ | ⟨ao,hv1,hnil⟩
  ·subst hv1
   have hgm:=hK gm hKg;clear hv;go_enter Tryz.func99,Tryz.ntmps99;go_wp2_with fail
   go_loopw [3,8] (fun u i wr=>∃ (k:Nat) (L:List Mk.Tok) (xs:List Value),k≤f.len∧i=.int .i64 k∧Hid (L++Mk.flat (f.drop k)=Mk.flat f)∧Hid (OwnT wr w.heap.size u L xs)∧Hid (L=[]→u=.slice none 0 0)∧Hid (Below w.heap.size w wr)) (fun _ i _=>f.len - (intOf i).toNat)
   case atStart=>exact⟨0,[],[],Nat.zero_le _,rfl,by show _=_;rw[Mk.Fo.drop_zero];rfl,⟨World.ownsRow_nil _ _ _ _,rfl⟩,fun _=>rfl,Below.refl _ _⟩
   case round =>
    obtain⟨k,L,xs,hk,rfl,HL,OT,HNL,BL⟩:=hrel;have hsz:=BL.out.size;obtain⟨aou,capu,hu⟩:=Y1 OT.out.own;subst hu
    by_cases hlt:k < f.len
    ·obtain⟨n,a,t,kk,r,hd,hd1⟩:=Mk.Fo.z3a f k hlt
     obtain⟨va,vk,c0,c1,c2,c3,hva,hvk⟩:=HAT.out k n a t kk r hd;rw[← BL.out.cell (p:=⟨gm,_,none⟩) hgm] at c0 c1 c2 c3;obtain⟨aoa,capa,hva1,_⟩:=id hva;obtain⟨aok,capk,xsk,hvk1,_⟩:=id hvk;subst hva1;subst hvk1;have hdb:(f.drop k).bulk=1 + n.length + t.length + Mk.Fo.atB a + kk.bulk + r.bulk:=by rw[hd];rfl
     have hdb2:=Mk.Fo.z0s f k;have hLL:L.length + (Mk.z5z n a t kk).length≤2 * f.bulk:=by
      have h:=HL.out;rw[hd,Mk.q2n] at h;have:=congrArg List.length h;simp only [List.length_append] at this;omega
     have HL2:Hid ((L++Mk.z5z n a t kk)++Mk.flat (f.drop (k + 1))=Mk.flat f):=by
      show _=_;have h:=HL.out;rw[hd,Mk.q2n] at h;rw[hd1,List.append_assoc];exact h
     have hal:=(Below.refl wr.heap.size wr).alloc (Nat.le_refl _) (.cells #[.string (st n),.slice aoa a.length capa,.string (st t),.slice aok kk.len capk] 53);have BL1:=Lib.hid (BL.out.trans (hal.mono hsz));have OT1:=Lib.hid (OT.out.below hal);have HVA:=Lib.hid (hva.below hK BL1.out);have HVK:=Lib.hid (hvk.below hK BL1.out);have PB:=Lib.hid (Blk.new wr 53 #[.string (st n),.slice aoa a.length capa,.string (st t),.slice aok kk.len capk]);have HTC:=Lib.hid (ih kk (by omega) (by omega));obtain⟨i0,hi,hz0,hz1,hz2⟩:=info_parts Tryz.infoTok;have hrN:∀ g,(Value.slice aou L.length capu).ownBlock=some g→g < wr.heap.size:=fun g e=>(OT.out.own.lt g e).2
     have HRN:=Lib.hid hrN;have hatl:=Mk.z1u a;have hal9:a.length≤549755813888:=by omega
     clear HAT hal HL hd hd1 hva hvk OT BL hrN hdb2;go_upto_region 5 with fail;clear c0 c1 c2 c3;generalize wr.alloc (.cells #[.string (st n),.slice aoa a.length capa,.string (st t),.slice aok kk.len capk] 53)=w1 at BL1 OT1 HVA HVK PB ⊢;generalize wr.heap.size=M at PB HRN ⊢;have n0:w1.cell? ⟨M,0,none⟩=some (.string (st n)):=Blk.cell PB.out 0;have n1:w1.cell? ⟨M,1,none⟩=some (.slice aoa a.length capa):=Blk.cell PB.out 1;have n2:w1.cell? ⟨M,2,none⟩=some (.string (st t)):=Blk.cell PB.out 2;have n3:w1.cell? ⟨M,3,none⟩=some (.slice aok kk.len capk):=Blk.cell PB.out 3;have hMl:M < w1.heap.size:=Blk.lt PB.out;have hsz1:=BL1.out.size;have HMR:Hid ((Value.slice aou L.length capu).ownBlock ≠ some M):=fun e=>Nat.lt_irrefl _ (HRN.out M e)
     have hne:n=[]∨n.isEmpty=false:=by
      cases n with
      | nil=>exact .inl rfl
      | cons _ _=>exact .inr rfl
     rcases hne with hn | hn
     ·have he:n.isEmpty=true:=by rw[hn];rfl
      have hfo:Mk.z5z n a t kk=[⟨1,[],[],t⟩]:=by unfold Mk.z5z;rw[if_pos hn]
      rw[hfo] at HL2 hLL;clear hn hfo;have ow:=z04 OT1.out.own ((Ap.refl (fun _=>False) w1).alloc (.cells #[.int .i64 1,.string ⟨#[]⟩,.slice none 0 0,.string (st t)] 181)) (fun _ _ q=>q);have hal:=(Below.refl w1.heap.size w1).alloc (Nat.le_refl _) (.cells #[.int .i64 1,.string ⟨#[]⟩,.slice none 0 0,.string (st t)] 181);simp only [List.length_cons,List.length_nil] at hLL;go_wp2_with (at_builtin;refine Y2 rfl _ _ 63 rfl w.heap.size 181 i0 (.agg #[.int .i64 0,.string ⟨#[]⟩,.slice none 0 0,.string ⟨#[]⟩]) 4 64 Tryz.underlying63 hi hz0 hz1 hz2 rfl (by decide) _ _ _ rfl ow ⟨w1.heap.size,0,none⟩ 1 1 [.int .i64 1,.string ⟨#[]⟩,.slice none 0 0,.string (st t)] rfl rfl (z07 w1 _ _) (by intro u hu;simp at hu;rcases hu with rfl | rfl | rfl | rfl <;> rfl) (by decide) (by unfold maxLen;omega) (by omega) (by simp;omega) ?_);intro v9 w9 hown9 hg9 hf9;have OT9:=Lib.hid (OT1.out.more (l2:=[⟨1,[],[],t⟩]) hal hown9 hg9 (by rw[World.size_alloc];exact hf9) ⟨.slice none 0 0,[],rfl,AtsV.nil _ _,rfl⟩);have BL9:=Lib.hid ((BL1.out.trans (hal.mono hsz1)).grown hg9 (by simp;omega) (fun q hq=>(OT1.out.own.lt q hq).1));clear hown9 hg9 hf9 hal ow hi hz0 hz1 hz2;go_wp2_with fail;go_roundw
      case rel=>exact⟨k + 1,_,_,by omega,by go_num,HL2.out,OT9.out,fun e=>by simp at e,BL9.out⟩
      case measure=>simp[intOf];omega
     ·have hnn:n ≠ []:=by intro e;rw[e] at hn;cases hn
      have hfo:Mk.z5z n a t kk=⟨2,n,a,[]⟩ :: (if Mk.z09 n then [] else Mk.flat kk++[⟨3,n,[],[]⟩]):=by unfold Mk.z5z;rw[if_neg hnn]
      rw[hfo] at HL2 hLL;clear hnn hfo;have hL9:L.length≤1099511627776:=by omega
      go_upto_region 7 with fail;have HCL:Hid (∀ W,Below w1.heap.size w1 W→Calls Tryz.prog 161 #[.slice aoa a.length capa] W fun e w'=>∃ v',e=.returned v'∧w'.ownsRow W.heap.size 56 2 v' a.length (J3 a)∧Below W.heap.size W w'):=fun W hW=>j1j a _ K W (HVA.out.frame (fun g hg=>⟨hg,hW.block g (by have:=hK g hg;omega)⟩)) (fun g hg=>by have:=hK g hg;have:=hW.size;omega) (by omega)
      have HFR:Hid (∀ W:World,W.heap[M]? = w1.heap[M]?→W.cell? ⟨M,0,none⟩=some (.string (st n))∧W.cell? ⟨M,1,none⟩=some (.slice aoa a.length capa)):=fun W hW=>⟨(cell_of_block hW _).trans n0,(cell_of_block hW _).trans n1⟩
      go_cut [3] (fun u wx=>∃ L2 xs2 ao2 cap2,u=.slice ao2 L2.length cap2∧L2=L++[⟨2,n,a,[]⟩]∧Hid (OwnT wx w.heap.size u L2 xs2)∧Hid (Below w.heap.size w wx)∧Hid (wx.heap[M]? = w1.heap[M]?)∧Hid (∀ g,u.ownBlock=some g→g ≠ M))
      case first =>
       have HLL:=Lib.hid hL9;clear n2 n3 HL2 hLL hk hdb hfl hgl hf hN hlen hlt hatl HTC HVK
       go_region_held3 (fun w'=>w'.cell? ⟨M,0,none⟩=some (.string (st n))∧w'.cell? ⟨M,1,none⟩=some (.slice aoa a.length capa)) (first
        | exact HFR.out _ rfl
        | exact HFR.out _ (hB7.block M hMl)
        | exact HFR.out _ ((hB7.alloc hB7.size _).block M hMl)
        | exact HFR.out _ hM9) (first | (go_at_call 161;refine(HCL.out _ (Below.refl _ _).drew).mono ?_;rintro e w7 ⟨v7,rfl,ow7,hb7⟩;obtain⟨ao7,cap7,rfl⟩:=Y1 ow7;have hB7:Below w1.heap.size w1 w7:=((Below.refl _ _).drew).trans (hb7.mono (Nat.le_refl _))) | (refine X5 rfl (.tmp 21) (.tmp 28) 63 rfl w.heap.size 181 i0 (.agg #[.int .i64 0,.string ⟨#[]⟩,.slice none 0 0,.string ⟨#[]⟩]) 4 64 Tryz.underlying63 hi hz0 hz1 hz2 rfl (by decide) (.slice aou L.length capu) L.length xs (by simp[Act.eval,Act.put]) (z04 (OT1.out.below hB7).own ((Ap.refl (fun _=>False) w7).alloc (.cells #[.int .i64 2,.string (st n),.slice ao7 a.length cap7,.string ⟨#[]⟩] 181)) (fun _ _ q=>q)) ⟨w7.heap.size,0,none⟩ 1 1 [.int .i64 2,.string (st n),.slice ao7 a.length cap7,.string ⟨#[]⟩] (by simp[Act.eval,Act.put]) rfl (z07 w7 _ _) (by intro u hu;simp at hu;rcases hu with rfl | rfl | rfl | rfl <;> rfl) (by decide) (by have:=HLL.out;unfold maxLen;omega) (by have:=HLL.out;omega) (by have:=hB7.size;simp;omega) ?_;intro v9 w9 hown9 hg9 hf9;obtain⟨ao9,cap9,rfl⟩:=Y1 hown9;have hal7:=hB7.alloc hB7.size (.cells #[.int .i64 2,.string (st n),.slice ao7 a.length cap7,.string ⟨#[]⟩] 181);have hM9:w9.heap[M]? = w1.heap[M]?:=(hg9.block M (Nat.lt_of_lt_of_le hMl hal7.size) (fun e=>HMR.out e.symm)).trans (hal7.block M hMl);have hne9:∀ g,(Value.slice ao9 (L.length + 1) cap9).ownBlock=some g→g ≠ M:=(fun g e q=>hf9.elim (fun e'=>HMR.out (by rw[← e',e,q])) (fun e'=>by rw[e'] at e;injection e with e;have:=hal7.size;subst q;rw[← e] at hMl;omega));have OT9:=(OT1.out.more (l2:=[⟨2,n,a,[]⟩]) hal7 hown9 hg9 hf9 ⟨.slice ao7 a.length cap7,[],rfl,(AtsV.of_own (K:=fun g=>w1.heap.size≤g∧g < w7.heap.size) ow7 (fun g hg=>ow7.lt g hg)).frame (fun g hg=>⟨⟨Nat.le_trans hsz1 hg.1,by have:=hg.2;simp;omega,fun e=>by have:=(OT1.out.own.lt g e).2;have:=hg.1;omega⟩,Below.heap_alloc w7 _ g hg.2⟩),rfl⟩);have BL9:=((BL1.out.trans (hal7.mono hsz1)).grown hg9 (by have:=hal7.size;omega) (fun q hq=>(OT1.out.own.lt q hq).1))))
       all_goals
        have HREL:=Lib.hid (And.intro OT9 (And.intro BL9 (And.intro hM9 hne9)));clear OT9 BL9 hM9 hne9 hown9 hg9 hf9 hal7 hB7 hb7 HFR HCL ow7 hi hz0 hz1 hz2 OT1 BL1;go_wp2_with fail;go_meet
        case rel=>exact⟨L++[(⟨2,n,a,[]⟩:Mk.Tok)],_,ao9,cap9,by rw[List.length_append];rfl,rfl,HREL.out.1,HREL.out.2.1,HREL.out.2.2.1,HREL.out.2.2.2⟩
      case rest =>
       obtain⟨L2,xs2,ao2,cap2,rfl,hL2,OT2,BL2,HM2,HN2⟩:=hcut;obtain⟨wb,hwb⟩:∃ x,x=wc:=⟨_,rfl⟩;subst hwb;have m0:wb.cell? ⟨M,0,none⟩=some (.string (st n)):=(cell_of_block HM2.out _).trans n0;have m3:wb.cell? ⟨M,3,none⟩=some (.slice aok kk.len capk):=(cell_of_block HM2.out _).trans n3;have hMb:M < wb.heap.size:=Blk.lt (show Blk wb M _ _ from HM2.out.trans PB.out);have hl2:L2.length=L.length + 1:=by rw[hL2,List.length_append];rfl
       have HLN:Hid (L2 ≠ []):=by intro e;rw[e] at hl2;simp at hl2
       have HVK2:Hid (FoV wb K (.slice aok kk.len capk) kk):=HVK.out.frame (fun b q=>⟨q,by
        have h1:=BL1.out.block b (hK b q);have h2:=BL2.out.block b (hK b q);rw[h1,h2]⟩)
       have hszb:=BL2.out.size;have HL3:Hid (L2++((if Mk.z09 n then [] else Mk.flat kk++[⟨3,n,[],[]⟩])++Mk.flat (f.drop (k + 1)))=Mk.flat f):=by
        show _=_;rw[hL2,← HL2.out];simp
       have hl3:L2.length + (if Mk.z09 n then [] else Mk.flat kk++[(⟨3,n,[],[]⟩:Mk.Tok)]).length≤2 * f.bulk:=by
        simp only [List.length_cons] at hLL;omega
       have hem:=q6p n wb;obtain⟨eb,heb⟩:∃ eb,Mk.z09 n=eb:=⟨_,rfl⟩;rw[heb] at hem HL3 hl3;have HEM:=Lib.hid hem;clear hl2;clear hem heb HL2 hLL n0 n1 n2 n3 OT1 HVA HVK HFR HCL HMR HRN hL2 PB
       cases eb with
       | true =>
        have HL4:Hid (L2++Mk.flat (f.drop (k + 1))=Mk.flat f):=by show _=_;have h:=HL3.out;simpa using h
        go_wp2_with fail;refine HEM.out.mono ?_;rintro e w5 ⟨rfl,hw5⟩;subst w5;clear m0 m3 HEM HL3;go_wp2_with fail;go_roundw
        case rel=>exact⟨k + 1,L2,xs2,by omega,by go_num,HL4.out,OT2.out,fun e=>absurd e HLN.out,BL2.out⟩
        case measure=>simp[intOf];omega
       | false =>
        have HL4:Hid (L2++((Mk.flat kk++[⟨3,n,[],[]⟩])++Mk.flat (f.drop (k + 1)))=Mk.flat f):=by show _=_;have h:=HL3.out;simpa using h
        have hl4:L2.length + ((Mk.flat kk).length + 1)≤2 * f.bulk:=by
         have h:=hl3;simp only [Bool.false_eq_true,if_false,List.length_append,List.length_cons,List.length_nil] at h;omega
        go_wp2_with fail;refine HEM.out.mono ?_;rintro e w5 ⟨rfl,hw5⟩;subst w5;clear HEM HL3 hl3;go_upto_region 9 with fail;have HTK:=Lib.hid (HTC.out (.slice aok kk.len capk) K wb HVK2.out (fun b q=>Nat.lt_of_lt_of_le (hK b q) hszb))
        go_cut [3] (fun u wx=>∃ L7 xs7 ao7 cap7,u=.slice ao7 L7.length cap7∧L7=L2++Mk.flat kk∧Hid (OwnT wx w.heap.size u L7 xs7)∧Hid (Below w.heap.size w wx)∧Hid (wx.heap[M]? = wb.heap[M]?))
        case first =>
         clear HL4 m0 hk hdb hlen hlt hatl HTC HVK2 hal9;go_wp2_with fail;refine HTK.out.mono ?_;rintro e w6 ⟨v6,xs6,rfl,ot6,hnil6,hb6⟩;have OT6:=Lib.hid ot6;have OT26:=Lib.hid (OT2.out.below hb6);have HM6:Hid (w6.heap[M]? = wb.heap[M]?):=hb6.block M hMb;have BL6:=Lib.hid (BL2.out.trans (hb6.mono hszb));have HB6:=Lib.hid hb6;have hsz6:=BL6.out.size;have HNIL:=Lib.hid hnil6;clear ot6 hb6 hnil6 HTK m3
         rcases Nat.eq_zero_or_pos (Mk.flat kk).length with h0 | h0
         ·have hfk:Mk.flat kk=[]:=List.eq_nil_of_length_eq_zero h0
          have hv6:=HNIL.out hfk;subst hv6;have HE:Hid (OwnT w6 w.heap.size (.slice ao2 L2.length cap2) (L2++Mk.flat kk) xs2):=by show OwnT _ _ _ _ _;rw[hfk,List.append_nil];exact OT26.out
          have HE2:Hid (L2.length=(L2++Mk.flat kk).length):=by show _=_;rw[hfk,List.append_nil]
          clear hfk;go_wp2_with (at_builtin;refine wpList_append_own_none rfl _ _ 63 rfl w.heap.size 181 i0 4 Tryz.underlying63 hi (.slice ao2 L2.length cap2) L2.length xs2 rfl OT26.out.own rfl ?_);go_wp2_with fail;go_meet
          case rel=>exact⟨L2++Mk.flat kk,xs2,ao2,cap2,by rw[← HE2.out],rfl,HE.out,BL6.out,HM6.out⟩
         ·rcases OT6.out.own.2 with ⟨hv,hn0⟩ | ⟨g6,cap6,cur6,hv,_⟩
          ·omega
          ·subst hv
           have HCE:=Lib.hid (OT6.out.own.cells (g:=g6) rfl);have hl6:xs6.length=(Mk.flat kk).length * 4:=OT6.out.own.1;have HZ:Hid (z0v w6 (KO w.heap.size w6 (.slice ao2 L2.length cap2)) (Mk.flat kk) xs6):=OT6.out.cells.frame (fun b q=>⟨⟨Nat.le_trans hszb q.1,q.2.1,fun e=>by have:=(OT2.out.own.lt b e).2;have:=q.1;omega⟩,rfl⟩);go_wp2_with (at_builtin;refine Y2 rfl _ _ 63 rfl w.heap.size 181 i0 (.agg #[.int .i64 0,.string ⟨#[]⟩,.slice none 0 0,.string ⟨#[]⟩]) 4 64 Tryz.underlying63 hi hz0 hz1 hz2 rfl (by decide) _ _ _ rfl OT26.out.own ⟨g6,0,none⟩ (Mk.flat kk).length cap6 xs6 rfl hl6 HCE.out OT6.out.cells.one h0 (by unfold maxLen;omega) (by omega) (by omega) ?_);intro v9 w9 hown9 hg9 hf9;obtain⟨ao9,cap9,rfl⟩:=Y1 hown9;have OT9:=Lib.hid (OT26.out.more (Below.refl _ _) hown9 hg9 hf9 HZ.out);have BL9:=Lib.hid (BL6.out.grown hg9 (by omega) (fun q hq=>(OT26.out.own.lt q hq).1));have HM9:Hid (w9.heap[M]? = wb.heap[M]?):=(hg9.block M (Nat.lt_of_lt_of_le hMb HB6.out.size) (fun e=>HN2.out M e.symm rfl)).trans HM6.out;clear hown9 hg9 hf9 hi hz0 hz1 hz2 HCE HZ OT6 OT26 OT2;go_wp2_with fail;go_meet
           case rel=>exact⟨L2++Mk.flat kk,_,ao9,cap9,by rw[List.length_append],rfl,OT9.out,BL9.out,HM9.out⟩
        case rest =>
         obtain⟨L7,xs7,ao7,cap7,rfl,hL7,OT7,BL7,HM7⟩:=hcut;obtain⟨wd,hwd⟩:∃ x,x=wc:=⟨_,rfl⟩;subst hwd;have d0:wd.cell? ⟨M,0,none⟩=some (.string (st n)):=(cell_of_block HM7.out _).trans m0;have hl7:L7.length + 1≤2 * f.bulk:=by rw[hL7,List.length_append];omega
         have HL5:Hid ((L7++[⟨3,n,[],[]⟩])++Mk.flat (f.drop (k + 1))=Mk.flat f):=by show _=_;rw[hL7,← HL4.out];simp
         have hsz7:=BL7.out.size;clear hL7 HL4 hl4 HTK HTC HVK2 OT2 m0 m3;have ow:=z04 OT7.out.own ((Ap.refl (fun _=>False) wd).alloc (.cells #[.int .i64 3,.string (st n),.slice none 0 0,.string ⟨#[]⟩] 181)) (fun _ _ q=>q);have hal:=(Below.refl wd.heap.size wd).alloc (Nat.le_refl _) (.cells #[.int .i64 3,.string (st n),.slice none 0 0,.string ⟨#[]⟩] 181);go_wp2_with (at_builtin;refine Y2 rfl _ _ 63 rfl w.heap.size 181 i0 (.agg #[.int .i64 0,.string ⟨#[]⟩,.slice none 0 0,.string ⟨#[]⟩]) 4 64 Tryz.underlying63 hi hz0 hz1 hz2 rfl (by decide) _ _ _ rfl ow ⟨wd.heap.size,0,none⟩ 1 1 [.int .i64 3,.string (st n),.slice none 0 0,.string ⟨#[]⟩] rfl rfl (z07 wd _ _) (by intro u hu;simp at hu;rcases hu with rfl | rfl | rfl | rfl <;> rfl) (by decide) (by unfold maxLen;omega) (by omega) (by simp;omega) ?_);intro v9 w9 hown9 hg9 hf9;have OT9:=Lib.hid (OT7.out.more (l2:=[⟨3,n,[],[]⟩]) hal hown9 hg9 (by rw[World.size_alloc];exact hf9) ⟨.slice none 0 0,[],rfl,AtsV.nil _ _,rfl⟩);have BL9:=Lib.hid ((BL7.out.trans (hal.mono hsz7)).grown hg9 (by simp;omega) (fun q hq=>(OT7.out.own.lt q hq).1));clear hown9 hg9 hf9 hal ow hi hz0 hz1 hz2 d0;go_wp2_with fail;go_roundw
         case rel=>exact⟨k + 1,_,_,by omega,by go_num,HL5.out,OT9.out,fun e=>by simp at e,BL9.out⟩
         case measure=>simp[intOf];omega
    ·have hke:k=f.len:=by omega
     rw[hke,Mk.Fo.z2q] at HL;have HL2:Hid (L=Mk.flat f):=by have h:=HL.out;rwa [show Mk.flat .nil=[] from rfl,List.append_nil] at h
     clear HL HAT;go_wp2_with fail;go_ret;exact⟨_,xs,rfl,by rw[← HL2.out];exact OT.out,by rw[← HL2.out];exact HNL.out,BL.out⟩
  ·subst hnil
   subst hv1;clear HAT hv;go_enter Tryz.func99,Tryz.ntmps99;go_wp2_with fail
   go_loopw [3,8] (fun u i wr=>u=.slice none 0 0∧i=.int .i64 0∧wr=w) (fun _ _ _=>0)
   case atStart=>exact⟨rfl,rfl,rfl⟩
   case round =>
    obtain⟨rfl,rfl,rfl⟩:=hrel;go_wp2_with fail;go_ret;exact⟨_,[],rfl,⟨World.ownsRow_nil _ _ _ _,rfl⟩,fun _=>rfl,Below.refl _ _⟩

theorem res_new {w w1:World} (hb:Below (w.alloc (.cells z1s 125)).heap.size (w.alloc (.cells z1s 125)) w1):Blk w1 w.heap.size 125 z1s∧Below w.heap.size w w1:=by
 have e1:(w.alloc (.cells z1s 125)).heap.size=w.heap.size + 1:=by simp
 exact⟨(Blk.new w _ _).below hb (by omega),((Below.refl _ w).alloc (Nat.le_refl _) _).trans (hb.mono (by omega))⟩

theorem q90 (s:ByteArray) (w:World) (hs:s.size≤3000) :
  Calls Tryz.prog 73 #[.string s] w fun e w'=>e=.returned (.tuple #[uVal (Mg.split s.data.toList),.int .i64 0])∧Below w.heap.size w w':=by
 have hd:decide (3000 < s.size)=false:=decide_eq_false (by omega);go_enter Tryz.func73,Tryz.ntmps73;go_wp2_with (go_at_call 82;refine(z1l _ _).mono ?_;rintro e w' ⟨rfl,rfl⟩;rw[hd]);refine(z9m s _ (by omega)).mono ?_;rintro e w1 ⟨rfl,hb1⟩;obtain⟨hz,hbl⟩:=res_new hb1;clear hb1;obtain⟨u,hu⟩:∃ u,u=Mg.split s.data.toList:=⟨_,rfl⟩;rw[← hu];have HU:=Lib.hid hu;clear hu;have z0:w1.cell? ⟨w.heap.size,0,none⟩=some (.string (st [])):=hz.cell 0;have z1:w1.cell? ⟨w.heap.size,1,none⟩=some (.string (st [])):=hz.cell 1;have z2:w1.cell? ⟨w.heap.size,2,none⟩=some (.string (st [])):=hz.cell 2;have z3:w1.cell? ⟨w.heap.size,3,none⟩=some (.string (st [])):=hz.cell 3;have z4:w1.cell? ⟨w.heap.size,4,none⟩=some (.string (st [])):=hz.cell 4;have z5:w1.cell? ⟨w.heap.size,5,none⟩=some (.bool false):=hz.cell 5;have z6:w1.cell? ⟨w.heap.size,6,none⟩=some (.bool false):=hz.cell 6;have z7:w1.cell? ⟨w.heap.size,7,none⟩=some (.bool false):=hz.cell 7;have z8:w1.cell? ⟨w.heap.size,8,none⟩=some (.bool false):=hz.cell 8;have y:∀ i,w1.frozen? ⟨w.heap.size,i,none⟩=false:=hz.frozen;unfold uVal;go_wp2_with fail;refine bodyPost_ret (v:=.tuple #[uVal u,.int .i64 0]) (by simp[results,Tryz.results73,go_sem, *];rfl) rfl ⟨by rw[HU.out],?_⟩;exact((((((((hbl.setCell (Nat.le_refl _) _).setCell (Nat.le_refl _) _).setCell (Nat.le_refl _) _).setCell (Nat.le_refl _) _).setCell (Nat.le_refl _) _).setCell (Nat.le_refl _) _).setCell (Nat.le_refl _) _).setCell (Nat.le_refl _) _).setCell (Nat.le_refl _) _

theorem q8y (u:Mg.U) (w:World) (hl:u.sch.length + u.au.length + u.pa.length + u.qu.length + u.fr.length≤1048576) (hj:Mg.z9c u=true) :
  Calls Tryz.prog 74 #[uVal u] w fun e w'=>e=.returned (.tuple #[.string (st (Mg.join u)),.int .i64 0])∧Below w.heap.size w w':=by
 have hJ:=fun W=>q52 u W hl
 rw[hj] at hJ;have HJ:=Lib.hid hJ;clear hJ hj;unfold uVal at *;go_enter Tryz.func74,Tryz.ntmps74;go_wp2_with (go_at_call 123;refine(HJ.out _).mono ?_;rintro e w1 ⟨rfl,hb1⟩);go_ret2;exact⟨rfl,((Below.refl _ _).alloc (Nat.le_refl _) _).trans (hb1.mono (by simp))⟩

theorem z2p (b:Nat) (i:List UInt8) (p:ByteArray) (pl:List UInt8) (hp:p.data.toList=pl) (w:World) (hc:w.cell? ⟨b,0,none⟩=some (.string (st i))) :
  Calls Tryz.prog 228 #[.pointer (some ⟨b,0,none⟩),.string p,.bool false] w fun e w'=>e=.returned (.bool (Mg.pre pl i))∧w=w':=by
 subst hp;go_enter Tryz.func228,Tryz.ntmps228;go_wp2_with (go_at_call 254;refine(Tryz.strings_HasPrefix _ _ _).mono ?_;rintro e w' ⟨rfl,hw⟩;rw[hw]);go_ret;exact⟨Z7 (pre_eq _ _),rfl⟩
theorem z2o (b:Nat) (i:List UInt8) (p:ByteArray) (pl:List UInt8) (hp:p.data.toList=pl) (w:World) (hc:w.cell? ⟨b,0,none⟩=some (.string (st i))) :
  Calls Tryz.prog 228 #[.pointer (some ⟨b,0,none⟩),.string p,.bool true] w fun e w'=>e=.returned (.bool (i == pl))∧w=w':=by
 subst hp;have hst:∀ s:ByteArray,s.toList=s.data.toList:=fun s=>Lib.toList_data s
 go_enter Tryz.func228,Tryz.ntmps228;go_wp2;go_ret;refine⟨Z7 ?_,rfl⟩;rw[Bool.eq_iff_iff,beq_iff_eq,beq_iff_eq];constructor
 ·intro h;rw[← h];rfl
 ·intro h;rw[h];rfl

def sv (l:List (List UInt8)):List Value:=l.map fun s=>Value.string (st s)
structure DSt (b:Nat) (w wk:World) (i:List UInt8) (o:List (List UInt8)) (v:Value):Prop where
 below:Below b w wk
 blk:Blk wk b 231 #[.string (st i),v]
 own:wk.ownsRow (b + 1) 9 1 v o.length (sv o)

theorem sv_len (l:List (List UInt8)):(sv l).length=l.length:=by simp[sv]
theorem DSt.pop {b:Nat} {w wk:World} {i:List UInt8} {o:List (List UInt8)} {g cap:Nat} (h:DSt b w wk i o (.slice (some ⟨g,0,none⟩) o.length cap)) (hpos:0 < o.length) :
  DSt b w (wk.setCell ⟨b,1,none⟩ (.slice (some ⟨g,0,none⟩) (o.length - 1) cap)) i o.dropLast (.slice (some ⟨g,0,none⟩) (o.length - 1) cap):=by
 refine⟨h.below.setCell (Nat.le_refl _) _,h.blk.set_ 1 _,?_⟩;rw[List.length_dropLast];refine ownsRow_setCell_below ?_ (by show b < b + 1;omega) _;obtain⟨n,hn⟩:∃ n,o.length=n + 1:=⟨o.length - 1,by omega⟩;have hne:o ≠ []:=by rintro rfl;cases hpos
 have hs:sv o=sv o.dropLast++[Value.string (st (o.getLast hne))]:=by
  conv=>lhs;rw[← List.dropLast_concat_getLast hne]
  simp[sv]
 have ho:=h.own;rw[hs,hn] at ho;rw[hn];exact ownsRow_pop (by rw[sv_len,List.length_dropLast];omega) ho

theorem q0o (b:Nat) (w wk:World) (i:List UInt8) (o:List (List UInt8)) (v:Value) (h:DSt b w wk i o v) (hl:o.length≤67108864) :
  Calls Tryz.prog 229 #[.pointer (some ⟨b,0,none⟩)] wk fun e w'=>e=.returned (.tuple #[])∧∃ v',DSt b w w' i o.dropLast v':=by
 have c0:wk.cell? ⟨b,1,none⟩=some v:=h.blk.cell 1;have f0:wk.frozen? ⟨b,1,none⟩=false:=h.blk.frozen 1
 rcases h.own.2 with ⟨rfl,h0⟩ | ⟨g,cap,cur,rfl,_,_,hnc,hcm,_⟩
 ·have ho:o=[]:=List.eq_nil_of_length_eq_zero h0
  subst ho;go_enter Tryz.func229,Tryz.ntmps229;go_wp2;go_end0;exact⟨rfl,_,h⟩
 ·by_cases hpos:0 < o.length
  ·go_enter Tryz.func229,Tryz.ntmps229
   go_wp2;go_end0;exact⟨rfl,_,h.pop hpos⟩
  ·have ho:o=[]:=List.eq_nil_of_length_eq_zero (by omega)
   subst ho;go_enter Tryz.func229,Tryz.ntmps229;go_wp2;go_end0;exact⟨rfl,_,h⟩

theorem z4j {P:Program} {w:World} {ops:Array Oper} {o:Oper} {a:Act} {K:Act→World→Prop} {Q:Exit→Act→World→Prop} {E:Prop} (hgd:o.guard=none) (s x:Operand) (t:TypeId)
  (ho:o.op=.call { callee:=.builtin .append,args:=#[s,x],argTypes:=#[t,t] })
  (base:Nat) (e:TypeId) (i:TypeInfo) (z:Value) (size bytes:Nat) (ht:P.underlying t=some (.slice e)) (hi:P.info? e=some i) (hz:i.zero=some z)
  (hsize:i.size=size) (hby:i.bytes=bytes) (hzs:z.cells.size=size) (hsz:0 < size)
  (v:Value) (n:Nat) (xs:List Value) (hs:a.eval s=v) (hown:w.ownsRow base e size v n xs)
  (ad:Addr) (m c:Nat) (news:List Value) (hx:a.eval x=.slice (some ad) m c) (hl:news.length=m * size) (hnews:∀ j u,news[j]? = some u→w.cell? (ad.add j)=some u) (h1:∀ u ∈ news,u.oneCell'=true)
  (h63:n + m≤maxLen) (hbytes:(n + m) * bytes≤140737488355328) (hbase:base≤w.heap.size)
  (h:∀ v' w',w'.ownsRow base e size v' (n + m) (xs++news)→w.grownBy w' v.ownBlock→(v'=.slice none 0 0↔v=.slice none 0 0∧m=0)→K (a.put o.dst v') w') :
  if Region.wanted o (yielded ops a.tmps)=true then Oper.wp P o a w K Q else E:=by
 have hw:Region.wanted o (yielded ops a.tmps)=true:=by simp[Region.wanted,hgd]
 rw[if_pos hw];exact wp_append_own w s x t ho base e i z size bytes ht hi hz hsize hby hzs hsz v n xs hs hown ad m c news hx hl hnews h1 h63 hbytes hbase h

theorem Tryz.infoS:(Tryz.prog.info? 9).map (fun i=>(i.zero,i.size,i.bytes))=some (some (.string ⟨#[]⟩),1,16):=by kernel_rfl
def Stepped (b:Nat) (w:World) (i:List UInt8) (o:List (List UInt8)) (e:Ending) (w':World):Prop :=
 e=.returned (.tuple #[])∧∃ v',DSt b w w' (Mg.X9 i).2.1 (Mg.z6w i o) v'

theorem z15 {p l:List UInt8} (h:Mg.pre p l=true):(p.length:Int)≤(st l).size:=by
 have h1:l.take p.length=p:=by simpa [Mg.pre] using h
 have:=congrArg List.length h1;rw[List.length_take] at this;simp only [y9];omega
theorem q68 {p l:List UInt8} {n:Nat} (hn:p.length=n) (h:Mg.pre p l=true):l.take n=p:=by subst hn;simpa [Mg.pre] using h
theorem z1j {p l:List UInt8} {n:Nat} (hn:p.length=n) (h:Mg.pre p l=false):¬ l.take n=p:=by subst hn;simpa [Mg.pre] using h
section
variable {i : List UInt8} (t1 : Mg.pre [46,46,47] i = false) (t2 : Mg.pre [46,47] i = false) (t3 : Mg.pre [47,46,47] i = false) (t4 : (i == [47,46]) = false) (t5 : Mg.pre [47,46,46,47] i = false) (t6 : (i == [47,46,46]) = false)
theorem dm_1 (t:Mg.pre [46,46,47] i=true):Mg.X9 i=(false,i.drop 3,[]):=by
 unfold Mg.X9;rw[if_pos (q68 (n:=3) rfl t)]
include t1 in
theorem dm_2 (t:Mg.pre [46,47] i=true):Mg.X9 i=(false,i.drop 2,[]):=by
 unfold Mg.X9;rw[if_neg (z1j (n:=3) rfl t1),if_pos (q68 (n:=2) rfl t)]
include t1 t2 in
theorem dm_3 (t:Mg.pre [47,46,47] i=true):Mg.X9 i=(false,i.drop 2,[]):=by
 unfold Mg.X9;rw[if_neg (z1j (n:=3) rfl t1),if_neg (z1j (n:=2) rfl t2),if_pos (q68 (n:=3) rfl t)]
include t1 t2 t3 in
theorem dm_4 (t:(i == [47,46])=true):Mg.X9 i=(false,[47],[]):=by
 unfold Mg.X9;rw[if_neg (z1j (n:=3) rfl t1),if_neg (z1j (n:=2) rfl t2),if_neg (z1j (n:=3) rfl t3),if_pos (beq_iff_eq.1 t)]
include t1 t2 t3 t4 in
theorem dm_5 (t:Mg.pre [47,46,46,47] i=true):Mg.X9 i=(true,i.drop 3,[]):=by
 unfold Mg.X9;rw[if_neg (z1j (n:=3) rfl t1),if_neg (z1j (n:=2) rfl t2),if_neg (z1j (n:=3) rfl t3),if_neg (beq_eq_false_iff_ne.1 t4),if_pos (q68 (n:=4) rfl t)]
include t1 t2 t3 t4 t5 in
theorem dm_6 (t:(i == [47,46,46])=true):Mg.X9 i=(true,[47],[]):=by
 unfold Mg.X9;rw[if_neg (z1j (n:=3) rfl t1),if_neg (z1j (n:=2) rfl t2),if_neg (z1j (n:=3) rfl t3),if_neg (beq_eq_false_iff_ne.1 t4),if_neg (z1j (n:=4) rfl t5),if_pos (beq_iff_eq.1 t)]
include t1 t2 t3 t4 t5 t6 in
theorem dm_7 (t:(i == [46])=true∨(i == [46,46])=true):Mg.X9 i=(false,[],[]):=by
 unfold Mg.X9;rw[if_neg (z1j (n:=3) rfl t1),if_neg (z1j (n:=2) rfl t2),if_neg (z1j (n:=3) rfl t3),if_neg (beq_eq_false_iff_ne.1 t4),if_neg (z1j (n:=4) rfl t5),if_neg (beq_eq_false_iff_ne.1 t6),if_pos (t.imp beq_iff_eq.1 beq_iff_eq.1)]
include t1 t2 t3 t4 t5 t6 in
theorem dm_8 (t7:(i == [46])=false) (t8:(i == [46,46])=false):Mg.X9 i=(false,i.tail.dropWhile (· != 47),i.take 1++i.tail.takeWhile (· != 47)):=by
 unfold Mg.X9;rw[if_neg (z1j (n:=3) rfl t1),if_neg (z1j (n:=2) rfl t2),if_neg (z1j (n:=3) rfl t3),if_neg (beq_eq_false_iff_ne.1 t4),if_neg (z1j (n:=4) rfl t5),if_neg (beq_eq_false_iff_ne.1 t6),if_neg (by rintro (h | h);exact beq_eq_false_iff_ne.1 t7 h;exact beq_eq_false_iff_ne.1 t8 h)]
end
theorem z7j {i r:List UInt8} {o:List (List UInt8)} (h:Mg.X9 i=(false,r,[])):Mg.z6w i o=o:=by simp[Mg.z6w,h]
theorem q48 {i r:List UInt8} {o:List (List UInt8)} (h:Mg.X9 i=(true,r,[])):Mg.z6w i o=o.dropLast:=by simp[Mg.z6w,h]
theorem DSt.left {b:Nat} {w wk:World} {i:List UInt8} {o:List (List UInt8)} {v:Value} (h:DSt b w wk i o v) (i':List UInt8):DSt b w (wk.setCell ⟨b,0,none⟩ (.string (st i'))) i' o v :=
 ⟨h.below.setCell (Nat.le_refl _) _,h.blk.set_ 0 _,ownsRow_setCell_below h.own (by show b < b + 1;omega) _⟩

theorem DSt.grow {b:Nat} {w wk w':World} {i:List UInt8} {o:List (List UInt8)} {v:Value} {O:Obj} (h:DSt b w wk i o v) (hg:(wk.alloc O).drew.grownBy w' v.ownBlock):Blk w' b 231 #[.string (st i),v]∧Below b w w':=by
 have hlt:=h.own.lt;have e1:(wk.alloc O).drew.heap.size=wk.heap.size + 1:=by simp
 have hl:=h.blk.lt;refine⟨?_,?_⟩
 ·refine((h.blk.alloc O).drew).grown hg ?_
  intro e;have:=(hlt b e.symm).1;omega
 ·have h1:Below b w (wk.alloc O).drew:=(h.below.alloc (by omega) O).drew
  exact h1.grown hg (by omega) (fun k hk=>by have:=(hlt k hk).1;omega)
theorem own_form {w:World} {base size n:Nat} {e:TypeId} {v:Value} {xs:List Value} (h:w.ownsRow base e size v n xs) (hn:0 < n):∃ g cap,v=.slice (some ⟨g,0,none⟩) n cap:=by
 rcases h.2 with ⟨_,h0⟩ | ⟨g,cap,cur,rfl,_⟩
 ·omega
 ·exact⟨g,cap,rfl⟩
theorem DSt.grown {b n:Nat} {w w':World} {i:List UInt8} {o:List (List UInt8)} {v v':Value} (hb:Blk w' b 231 #[.string (st i),v]) (hl:Below b w w') (ho:w'.ownsRow (b + 1) 9 1 v' (o.length + 1) (sv o++[Value.string ((st i).extract 0 n)])) :
  DSt b w (w'.setCell ⟨b,1,none⟩ v') i (o++[i.take n]) v':=by
 refine⟨hl.setCell (Nat.le_refl _) _,hb.set_ 1 _,ownsRow_setCell_below ?_ (by show b < b + 1;omega) _⟩;rw[z3s] at ho;have e:sv (o++[i.take n])=sv o++[Value.string (st (i.take n))]:=by simp[sv]
 rw[e,List.length_append];exact ho
theorem j4s (l:List UInt8) :
  (Lib.indexByte l 47 = -1∧l.takeWhile (· != 47)=l∧l.dropWhile (· != 47)=[]) ∨
  ∃ k,k < l.length∧Lib.indexByte l 47=(k:Nat)∧l.takeWhile (· != 47)=l.take k∧l.dropWhile (· != 47)=l.drop k:=by
 induction l with
 | nil=>exact .inl ⟨rfl,rfl,rfl⟩
 | cons c t ih =>
  rw[Lib.indexByte]
  by_cases hc:c=47
  ·right
   exact⟨0,by simp,by simp[hc],by simp[hc],by simp[hc]⟩
  ·have hb:(c == 47)=false:=beq_eq_false_iff_ne.2 hc
   rw[hb]
   rcases ih with ⟨h1,h2,h3⟩ | ⟨k,h1,h2,h3,h4⟩
   ·left
    simp only [h1];refine⟨rfl,?_,?_⟩
    ·rw[List.takeWhile_cons,if_pos (by simpa using hc),h2]
    ·rw[List.dropWhile_cons,if_pos (by simpa using hc),h3]
   ·right
    refine⟨k + 1,by simp;omega,?_,?_,?_⟩
    ·rw[h2]
     have:¬ (((k:Nat):Int) == -1)=true:=by rw[beq_iff_eq];omega
     simp[this]
    ·rw[List.takeWhile_cons,if_pos (by simpa using hc),h3];rfl
    ·rw[List.dropWhile_cons,if_pos (by simpa using hc),h4];rfl
theorem j4h (i:List UInt8) (hi:i ≠ []):∃ n,1≤n∧n≤i.length∧i.take 1++i.tail.takeWhile (· != 47)=i.take n∧i.tail.dropWhile (· != 47)=i.drop n∧((Lib.indexByte i.tail 47 = -1∧n=i.length)∨Lib.indexByte i.tail 47=(n:Int) - 1):=by
 obtain⟨c,t,rfl⟩:=List.exists_cons_of_ne_nil hi
 rcases j4s t with ⟨h1,h2,h3⟩ | ⟨k,h1,h2,h3,h4⟩
 ·exact⟨t.length + 1,by omega,by simp,by simp[h2],by simp[h3],.inl ⟨h1,by simp⟩⟩
 ·refine⟨k + 1,by omega,by simp;omega,by simp[h3],by simp[h4],.inr ?_⟩
  simp only [List.tail_cons];omega
theorem j6w (s:ByteArray) (w:World):Calls Tryz.prog 230 #[.string s,.int .u8 47] w fun e w'=>e=.returned (.int .i64 (Lib.indexByte s.data.toList 47))∧w=w' :=
 (Tryz.strings_IndexByte s 47 w).mono fun e w' ⟨he,hw⟩=>⟨he,hw.symm⟩

theorem q7d (b:Nat) (w wk:World) (i:List UInt8) (o:List (List UInt8)) (v:Value) (h:DSt b w wk i o v) (hi:i ≠ []) (hl:o.length + i.length≤67108864) :
  Calls Tryz.prog 183 #[.pointer (some ⟨b,0,none⟩)] wk (Stepped b w i o):=by
 obtain⟨i0,hi0,hz0,hz1,hz2⟩:=info_parts Tryz.infoS;have c0:wk.cell? ⟨b,0,none⟩=some (.string (st i)):=h.blk.cell 0;have c1:wk.cell? ⟨b,1,none⟩=some v:=h.blk.cell 1;have f0:wk.frozen? ⟨b,0,none⟩=false:=h.blk.frozen 0;have f1:wk.frozen? ⟨b,1,none⟩=false:=h.blk.frozen 1;go_enter Tryz.func183,Tryz.ntmps183;go_wp2_with fail;refine(z2p b i _ [46,46,47] rfl _ c0).mono ?_;rintro e w1 ⟨rfl,rfl⟩
 cases t1:Mg.pre [46,46,47] i with
 | true =>
  have hz:(3:Int)≤(st i).size:=z15 t1;have T:=Lib.hid (dm_1 t1);clear t1;go_wp2_with fail;go_end0;exact⟨rfl,_,by rw[T.out,z7j T.out,z0g];exact h.left _⟩
 | false =>
 go_wp2_with fail;refine(z2p b i _ [46,47] rfl _ c0).mono ?_;rintro e w1 ⟨rfl,rfl⟩
 cases t2:Mg.pre [46,47] i with
 | true =>
  have hz:(2:Int)≤(st i).size:=z15 t2;have T:=Lib.hid (dm_2 t1 t2);clear t1 t2;go_wp2_with fail;go_end0;exact⟨rfl,_,by rw[T.out,z7j T.out,z0g];exact h.left _⟩
 | false =>
 go_wp2_with fail;refine(z2p b i _ [47,46,47] rfl _ c0).mono ?_;rintro e w1 ⟨rfl,rfl⟩
 cases t3:Mg.pre [47,46,47] i with
 | true =>
  have hz:(2:Int)≤(st i).size:=by have h3:(3:Int)≤(st i).size:=z15 t3;omega
  have T:=Lib.hid (dm_3 t1 t2 t3);clear t1 t2 t3;go_wp2_with fail;go_end0;exact⟨rfl,_,by rw[T.out,z7j T.out,z0g];exact h.left _⟩
 | false =>
 go_wp2_with fail;refine(z2o b i _ [47,46] rfl _ c0).mono ?_;rintro e w1 ⟨rfl,rfl⟩
 cases t4:i == [47,46] with
 | true =>
  have T:=Lib.hid (dm_4 t1 t2 t3 t4);clear t1 t2 t3 t4;go_wp2_with fail;go_end0;exact⟨rfl,_,by rw[T.out,z7j T.out];exact h.left [47]⟩
 | false =>
 go_wp2_with fail;refine(z2p b i _ [47,46,46,47] rfl _ c0).mono ?_;rintro e w1 ⟨rfl,rfl⟩
 cases t5:Mg.pre [47,46,46,47] i with
 | true =>
  have hz:(3:Int)≤(st i).size:=by have h4:(4:Int)≤(st i).size:=z15 t5;omega
  have T:=Lib.hid (dm_5 t1 t2 t3 t4 t5);clear t1 t2 t3 t4 t5;have h2:=h.left (i.drop 3);rw[← z0y i,← z0g] at h2;go_wp2_with fail;refine(q0o b w _ _ o v h2 (by omega)).mono ?_;rintro e w2 ⟨rfl,v2,h3⟩;go_wp2_with fail;go_end0;exact⟨rfl,_,by rw[T.out,q48 T.out];exact h3⟩
 | false =>
 go_wp2_with fail;refine(z2o b i _ [47,46,46] rfl _ c0).mono ?_;rintro e w1 ⟨rfl,rfl⟩
 cases t6:i == [47,46,46] with
 | true =>
  have T:=Lib.hid (dm_6 t1 t2 t3 t4 t5 t6);clear t1 t2 t3 t4 t5 t6;have h2:=h.left [47];go_wp2_with fail;refine(q0o b w _ _ o v h2 (by omega)).mono ?_;rintro e w2 ⟨rfl,v2,h3⟩;go_wp2_with fail;go_end0;exact⟨rfl,_,by rw[T.out,q48 T.out];exact h3⟩
 | false =>
 go_wp2_with fail;refine(z2o b i _ [46] rfl _ c0).mono ?_;rintro e w1 ⟨rfl,rfl⟩
 cases t7:i == [46] with
 | true =>
  have T:=Lib.hid (dm_7 t1 t2 t3 t4 t5 t6 (.inl t7));clear t1 t2 t3 t4 t5 t6 t7;go_wp2_with fail;go_end0;exact⟨rfl,_,by rw[T.out,z7j T.out];exact h.left []⟩
 | false =>
 go_wp2_with fail;refine(z2o b i _ [46,46] rfl _ c0).mono ?_;rintro e w1 ⟨rfl,rfl⟩
 cases t8:i == [46,46] with
 | true =>
  have T:=Lib.hid (dm_7 t1 t2 t3 t4 t5 t6 (.inr t8));clear t1 t2 t3 t4 t5 t6 t7 t8;go_wp2_with fail;go_end0;exact⟨rfl,_,by rw[T.out,z7j T.out];exact h.left []⟩
 | false =>
 have T8:=dm_8 t1 t2 t3 t4 t5 t6 t7 t8;clear t1 t2 t3 t4 t5 t6 t7 t8;have hz:(1:Int)≤(st i).size:=by have:=List.length_pos_iff.2 hi;simp only [y9];omega
 obtain⟨n,n1,n2,n3,n4,n5⟩:=j4h i hi;rw[n3,n4] at T8;have T:=Lib.hid T8;clear T8 n3 n4;have hx:((st i).extract 1 (st i).size).data.toList=i.tail:=by rw[z0g];exact List.drop_one
 rw[← hx] at n5;clear hx;obtain⟨x,hx⟩:∃ x,Lib.indexByte ((st i).extract 1 (st i).size).data.toList 47=x:=⟨_,rfl⟩;rw[hx] at n5;have HX:=Lib.hid hx;clear hx;go_wp2_with fail;refine(j6w _ _).mono ?_;rintro e w1 ⟨rfl,rfl⟩;rw[HX.out];go_upto_if 11 with fail
 go_cut [2] (fun s2 wx=>s2=.int .i64 n∧wx=wk)
 case first =>
  by_cases hx0:x + 1=0
  ·have hb:((x + 1) == 0)=true:=beq_iff_eq.2 hx0
   have hn:n=(st i).size:=by simp only [y9];omega
   go_wp2_with fail;go_meet
   case rel=>exact⟨by rw[hn],rfl⟩
  ·have hb:((x + 1) == 0)=false:=beq_eq_false_iff_ne.2 hx0
   go_wp2_with fail;go_meet
   case rel =>
    have:x + 1=(n:Int):=by omega
    exact⟨by rw[this],rfl⟩
 case rest =>
  obtain⟨rfl,rfl⟩:=hcut;have nz:(n:Int)≤(st i).size:=by simp only [y9];omega
  have hown:=h.own;have hsz:b + 1≤wc.heap.size:=h.blk.lt;have ca:(wc.alloc (.cells #[.string ((st i).extract 0 n)] 9)).cell? ⟨b,1,none⟩=some v:=(h.blk.alloc _).cell 1;have fa:(wc.alloc (.cells #[.string ((st i).extract 0 n)] 9)).frozen? ⟨b,1,none⟩=false:=(h.blk.alloc _).frozen 1;go_wp2_with fail;go_upto_region 3 with fail
  go_cut [] (fun wx=>∃ v',DSt b w wx i (o++[i.take n]) v')
  case first =>
   go_region_law (refine z4j rfl (.tmp 21) (.tmp 28) 24 rfl (b + 1) 9 i0 (.string ⟨#[]⟩) 1 16 Tryz.underlying24 hi0 hz0 hz1 hz2 rfl (by decide) v o.length (sv o) (by simp[Act.eval,Act.put]) (hown.alloc _) ⟨wc.heap.size,0,none⟩ 1 1 [.string ((st i).extract 0 n)] (by simp[Act.eval,Act.put]) rfl (cell_one_new _ _ _) (one_cell _ rfl) (by unfold maxLen;omega) (by omega) (by simp;omega) ?_;intro v' w' hown' hg' hnn;have hgf:=h.grow hg';have c1':w'.cell? ⟨b,1,none⟩=some v:=hgf.1.cell 1;have f1':w'.frozen? ⟨b,1,none⟩=false:=hgf.1.frozen 1;obtain⟨g,cap,hv⟩:=own_form hown' (Nat.succ_pos _);rw[hv] at hown';rw[hv])
   all_goals
    go_wp2_with fail;go_meet
    case rel=>exact⟨_,DSt.grown hgf.1 hgf.2 hown'⟩
  case rest =>
   obtain⟨v2,h2⟩:=hcut
   rename_i we
   have d0:wc.cell? ⟨b,0,none⟩=some (.string (st i)):=h2.blk.cell 0;have g0:wc.frozen? ⟨b,0,none⟩=false:=h2.blk.frozen 0;go_wp2_with fail;go_end0;refine⟨rfl,v2,?_⟩;have hne:i.take n ≠ []:=by
    intro e
    rcases List.take_eq_nil_iff.1 e with h0 | h0
    ·omega
    ·exact hi h0
   have e1:Mg.z6w i o=o++[i.take n]:=by simp[Mg.z6w,T.out,hne]
   rw[T.out,e1,z0g];exact h2.left _

theorem q7s (l:List (List UInt8)):Lib.join l []=l.flatten:=by
 unfold Lib.join
 induction l with
 | nil=>rfl
 | cons a t ih =>
  cases t with
  | nil=>simp[List.intercalate,List.intersperse]
  | cons b t =>
   simp[List.intercalate,List.intersperse] at ih ⊢;exact ih

theorem j4v (base:Nat) (o:List (List UInt8)) (v:Value) (w:World) (hown:w.ownsRow base 9 1 v o.length (sv o)) (hl:o.length≤67108864) (hf:o.flatten.length≤67108864) :
  Calls Tryz.prog 159 #[v,.string ⟨#[]⟩] w fun e w'=>e=.returned (.string (st o.flatten))∧Below w.heap.size w w':=by
 rcases hown.2 with ⟨rfl,h0⟩ | ⟨g,cap,cur,rfl,_,hh,hnc,hcm,_⟩
 ·have:o=[]:=List.eq_nil_of_length_eq_zero h0
  subst this;exact(Tryz.strings_Join_none none 0 ⟨#[]⟩ w).mono fun e w' ⟨he,hw⟩=>⟨he,by rw[hw];exact Below.refl _ _⟩
 ·have hc:=hown.cells (g:=g) rfl
  have e1:(o.map st).length=o.length:=by simp
  have e2:List.map (fun x:ByteArray=>x.data.toList) (o.map st)=o:=by rw[List.map_map];exact List.map_id _
  have hj:=Tryz.strings_Join g 0 cap (o.map st) ⟨#[]⟩ w (by
   intro j x hj;have hjo:(sv o)[j]? = some (.string x):=by
    simp only [sv,List.getElem?_map,Option.map_eq_some_iff] at hj ⊢;obtain⟨a,ha,rfl⟩:=hj;exact⟨a,ha,rfl⟩
   have:=hc j _ hjo;have ea:(⟨g,0,none⟩:Addr).add j=⟨g,0 + j,none⟩:=by unfold Addr.add;split <;> simp_all
   rw[← ea];exact this) (hown.lt g rfl).2 (by rw[e1];omega) (by rw[e1];exact hnc) (by rw[e2];show (Lib.join o []).length≤_;rw[q7s];omega)
  rw[e1,e2] at hj;refine hj.mono fun e w' ⟨he,hw⟩=>⟨?_,hw⟩
  rw[he];show Ending.returned (.string (st (Lib.join o [])))=_;rw[q7s]

theorem j8b (i:List UInt8) (o:List (List UInt8)):(Mg.z6w i o).length≤o.length + 1:=by
 unfold Mg.z6w;rw[List.length_append]
 split <;> split <;> simp <;> omega
theorem q3d (s:ByteArray) (w:World) (hs:s.size≤67108864) :
  Calls Tryz.prog 124 #[.string s] w fun e w'=>e=.returned (.string (st (Mg.dots s.data.toList)))∧Below w.heap.size w w':=by
 have hd0:DSt w.heap.size w (w.alloc (.cells #[.string (st s.data.toList),.slice none 0 0] 231)) s.data.toList [] (.slice none 0 0) :=
  ⟨(Below.refl _ w).alloc (Nat.le_refl _) _,Blk.new w _ _,World.ownsRow_nil _ _ _ _⟩
 go_enter Tryz.func124,Tryz.ntmps124;go_wp2_with fail
 go_loopg [] s.size (fun g wx=>∃ i o v,i.length≤g∧o.length + i.length≤s.size∧DSt w.heap.size w wx i o v∧Hid (Mg.q2g i o.flatten=Mg.dots s.data.toList)∧Mg.z2k o∧Hid (o ≠ []→i=[]∨Mg.z0o i))
 case atStart=>exact⟨s.data.toList,[],_,by simp,by simp,hd0,rfl,trivial,fun h=>absurd rfl h⟩
 case round =>
  obtain⟨i,o,v,hig,hil,hd,hr,hok,hsl⟩:=hrel;have c0:wr.cell? ⟨w.heap.size,0,none⟩=some (.string (st i)):=hd.blk.cell 0
  by_cases hi:i=[]
  ·subst hi
   have he:(st []).toList=[]:=Lib.toList_data _;have hfl:o.flatten=Mg.dots s.data.toList:=by rw[← hr.out];rfl
   have hlen:o.flatten.length≤67108864:=by rw[hfl];have:=Mg.q5i s.data.toList;simp at this;omega
   have HF:=Lib.hid hfl;have c1:wr.cell? ⟨w.heap.size,1,none⟩=some v:=hd.blk.cell 1;clear hfl;go_wp2_with fail;refine(j4v _ o v _ hd.own (by omega) hlen).mono ?_;rintro e w2 ⟨rfl,hb2⟩;go_wp2_with fail;go_ret;exact⟨by rw[HF.out];rfl,hd.below.trans (hb2.mono hd.below.size)⟩
  ·have he:(st i).toList.isEmpty=false:=by
    have:(st i).toList=i:=Lib.toList_data _;rw[this]
    cases i with
    | nil=>exact absurd rfl hi
    | cons _ _=>rfl
   obtain⟨p1,p2,p3⟩:=Mg.q5k i o hi hok (fun h=>(hsl.out h).resolve_left hi);have hr2:Hid (Mg.q2g (Mg.X9 i).2.1 (Mg.z6w i o).flatten=Mg.dots s.data.toList):=by
    show _=_;rw[p1,← Mg.z9y i _ hi,hr.out]
   have hless:=Mg.z7i i hi;have hdp:=j8b i o;have P3:=Lib.hid p3;clear p1 p3 hr;have HI:=Lib.hid hi;clear hi;go_wp2_with fail;refine(q7d _ w _ i o v hd HI.out (by omega)).mono ?_;rintro e w2 ⟨rfl,v2,hd2⟩;go_wp2_with fail
   go_roundg (gk - 1)
   case measure=>omega
   case rel=>exact⟨_,_,v2,by omega,by omega,hd2,hr2,p2,P3⟩

theorem j1b (s:ByteArray) (w:World) (hs:s.size≤3000) :
  Calls Tryz.prog 75 #[.string s] w fun e w'=>e=.returned (.tuple #[.string (st (Mg.dots s.data.toList)),.int .i64 0])∧Below w.heap.size w w':=by
 have hd:decide (3000 < s.size)=false:=decide_eq_false (by omega);go_enter Tryz.func75,Tryz.ntmps75;go_wp2_with (first | (go_at_call 82;refine(z1l _ _).mono ?_;rintro e w' ⟨rfl,rfl⟩;rw[hd]) | (go_at_call 124;refine(q3d _ _ (by omega)).mono ?_;rintro e w' ⟨rfl,hb⟩));go_ret2;exact⟨rfl,hb⟩

def gath (l:List UInt8):List UInt8:=Mg.fold (l.filter (fun c=>decide (32 < c)))
theorem gath_yes (l:List UInt8) (c:UInt8) (h:32 < (c.toNat:Int)):gath (l++[c])=gath l++[Mg.low c]:=by
 have:decide (32 < c)=true:=by rw[decide_eq_true_eq,UInt8.lt_iff_toNat_lt];show 32 < c.toNat;omega
 simp[gath,List.filter_append,this,Mg.fold]
theorem gath_no (l:List UInt8) (c:UInt8) (h:¬ 32 < (c.toNat:Int)):gath (l++[c])=gath l:=by
 have:decide (32 < c)=false:=by rw[decide_eq_false_iff_not,UInt8.lt_iff_toNat_lt];show ¬ 32 < c.toNat;omega
 simp[gath,List.filter_append,this,Mg.fold]
theorem j1u (l:List UInt8):(gath l).length≤l.length:=by
 unfold gath Mg.fold;rw[List.length_map];exact List.length_filter_le _ _

theorem schOf_le (t:List UInt8):Mg.z0n t≤t.length:=by
 by_cases h:Mg.z0n t=0
 ·omega
 ·have:=(List.getElem?_eq_some_iff.1 (Mg.q6h t h)).1
  omega
theorem q8x (s:ByteArray) (w:World) (hs:s.size≤67108864) :
  Calls Tryz.prog 62 #[.string s] w fun e w'=>e=.returned (.bool (Mg.isSafe s.data.toList))∧Below w.heap.size w w':=by
 obtain⟨i0,hi,hz0,hz1,hz2⟩:=info_parts Tryz.infoB;have hcv:=Lib.run_convert_string_bytes (P:=Tryz.prog) w 9 94 5 s (u:=.string) Tryz.underlying9 Tryz.underlying94 Tryz.underlying5;have hcl:=fun j hj=>Lib.bytesWorld_cell w 5 s j hj
 have hbw:Below w.heap.size w (Lib.bytesWorld w 5 s):=⟨rfl,rfl,rfl,by rw[Lib.bytesWorld_size];omega,fun k hk=>Lib.bytesWorld_at_old w _ s k hk⟩;have hsz:=Lib.bytesWorld_size w 5 s;generalize Lib.bytesWorld w 5 s=wv at hcv hcl hbw hsz;have HCL:=Lib.hid hcl;have HSZ:=Lib.hid hsz;clear hcl hsz;go_enter Tryz.func62,Tryz.ntmps62;go_wp2_with fail;clear hcv
 go_loopw [3,5,11] (fun v _ i wr=>∃ k:Nat,k≤s.size∧i=.int .i64 k∧wr.ownsRow (w.heap.size + 1) 5 1 v (gath (s.data.toList.take k)).length (bv (gath (s.data.toList.take k)))∧Below (w.heap.size + 1) wv wr) (fun _ _ i _=>s.size - (intOf i).toNat)
 case atStart=>exact⟨0,Nat.zero_le _,rfl,World.ownsRow_nil _ _ _ _,Below.refl _ _⟩
 case round =>
  obtain⟨k,hk,rfl,hown,hbl⟩:=hrel
  by_cases hlt:k < s.size
  ·have hb:(s[k].toNat:Int)≤255:=by have:=s[k].toNat_lt;omega
   have hck:wr.cell? ⟨w.heap.size,k,none⟩=some (.int .u8 (s[k].toNat:Int)):=by
    rw[hbl.cell (p:=⟨w.heap.size,k,none⟩) (by show w.heap.size < w.heap.size + 1;omega),HCL.out k hlt];have:s.data.toList.getD k 0=s[k]:=by rw[List.getD_eq_getElem?_getD,Lib.data_getElem? s k hlt];rfl
    rw[this]
   have hszr:w.heap.size + 1≤wr.heap.size:=by have:=hbl.size;have:=HSZ.out;omega
   have hgl:=j1u (s.data.toList.take k);have hgl2:(gath (s.data.toList.take k)).length≤k:=by rw[List.length_take] at hgl;omega
   clear hgl
   by_cases h32:32 < (s[k].toNat:Int)
   ·have HF:=Lib.hid (gath_yes (s.data.toList.take k) s[k] h32)
    have HT:=Lib.hid (z8j s k hlt);go_wp2_with (first | (go_at_call 111;refine(q3e _ _).mono ?_;rintro e w' ⟨rfl,rfl⟩) | (at_builtin;refine wpList_append_own _ rfl _ _ 94 rfl (w.heap.size + 1) 5 i0 (.int .u8 0) 1 1 Tryz.underlying94 hi hz0 hz1 hz2 rfl (by decide) _ _ _ rfl (hown.alloc _) ⟨wr.heap.size,0,none⟩ 1 1 [.int .u8 ((Mg.low s[k]).toNat:Int)] rfl rfl (cell_one_new _ _ _) (one_cell _ rfl) (by unfold maxLen;omega) (by omega) (by simp;omega) ?_));intro v' w1 hown' hgrow _;have hbl1:=below_grown (hbl.alloc hszr _) (hown.alloc _) hgrow (by simp;omega);rw[← bv_snoc,← HF.out,← HT.out] at hown';have hln:(gath (s.data.toList.take k)).length + 1=(gath (s.data.toList.take (k + 1))).length:=by rw[HT.out,HF.out,List.length_append];rfl
    rw[hln] at hown';clear hown hgrow hbl hln;go_wp2;go_roundw
    case rel=>exact⟨k + 1,by omega,by go_num,hown',hbl1⟩
    case measure=>simp[intOf];omega
   ·have HF:=Lib.hid (gath_no (s.data.toList.take k) s[k] h32)
    have HT:=Lib.hid (z8j s k hlt);go_wp2;rw[← HF.out,← HT.out] at hown;go_roundw
    case rel=>exact⟨k + 1,by omega,by go_num,hown,hbl⟩
    case measure=>simp[intOf];omega
  ·rw[List.take_of_length_le (by simp;omega)] at hown
   have hc:=z3w (P:=Tryz.prog) wr 94 9 5 Tryz.underlying94 Tryz.underlying5 Tryz.underlying9 _ hown;have hfin:=Mg.q9y s.data.toList;have hgl:=j1u s.data.toList;have HF:=Lib.hid hfin;clear hfin;have hbf:Below w.heap.size w wr:=hbw.trans (hbl.mono (by omega));obtain⟨t,ht⟩:∃ t,gath s.data.toList=t:=⟨_,rfl⟩;have hfin:Mg.isSafe s.data.toList=Mg.q6g (t.take (Mg.z0n t)):=by rw[HF.out,← ht];rfl
   rw[ht] at hc hgl hown;have HFF:=Lib.hid hfin;clear hfin HF ht hown hbl hbw;have hnl:=schOf_le t;have hsl:t.length≤67108864:=by simp at hgl;omega
   go_wp2_with fail;change Calls _ _ #[.string (st t)] _ _;refine(z5l (st t) _ (by simp only [y9];omega)).mono ?_;rintro e w2 ⟨rfl,hb2⟩;obtain⟨n,hn⟩:∃ n,Mg.z0n (st t).data.toList=n:=⟨_,rfl⟩;rw[hn];have hnt:(n:Int)≤(st t).size:=by have hx:n=Mg.z0n t:=hn.symm;simp only [y9];omega
   have hnt2:n≤t.length:=by have hx:n=Mg.z0n t:=hn.symm;omega
   have hxl:(ByteArray.extract ⟨t.toArray⟩ 0 n).toList=t.take n:=by rw[z9z];simp
   have HXL:=Lib.hid hxl;clear hxl;have hn2:Mg.z0n t=n:=hn;have HN:=Lib.hid hn2;clear hn hn2 hc;go_wp2_with fail
   ·have e1:(ByteArray.extract ⟨t.toArray⟩ 0 n).toList=[104,116,116,112]:=by assumption
    go_ret;refine⟨Z7 ?_,hbf.trans (hb2.mono hbf.size)⟩;rw[HXL.out] at e1;rw[HFF.out,HN.out,e1];rfl
   ·have e1:(ByteArray.extract ⟨t.toArray⟩ 0 n).toList=[104,116,116,112,115]:=by assumption
    go_ret;refine⟨Z7 ?_,hbf.trans (hb2.mono hbf.size)⟩;rw[HXL.out] at e1;rw[HFF.out,HN.out,e1];rfl
   ·go_ret
    refine⟨Z7 ?_,hbf.trans (hb2.mono hbf.size)⟩;rw[HXL.out,HFF.out,HN.out];rfl

theorem z6l (s:ByteArray) (w:World) (hs:s.size≤3000) :
  Calls Tryz.prog 35 #[.string s] w fun e w'=>e=.returned (.tuple #[.bool (Mg.isSafe s.data.toList),.int .i64 0])∧Below w.heap.size w w':=by
 have hd:decide (3000 < s.size)=false:=decide_eq_false (by omega);go_enter Tryz.func35,Tryz.ntmps35;go_wp2_with (first | (go_at_call 82;refine(z1l _ _).mono ?_;rintro e w' ⟨rfl,rfl⟩;rw[hd]) | (go_at_call 62;refine(q8x _ _ (by omega)).mono ?_;rintro e w' ⟨rfl,hb⟩));go_ret2;exact⟨rfl,hb⟩
end Go.Proofs.YtjonkbdldebkiaaGreatDoor
