/- Contract of the program's Tokens: the tokens of a tree. Condition: at most 1099511627776 nodes, attributes and letters together. -/
import Derived.Test.YtjonkbdldebkiaaGreatDoorVMkTree10
import Derived.Laws.AppendOwnNone
import Derived.Test.YtjonkbdldebkiaaGreatDoorVUrlD
import Derived.Deep.RegionLaw
import Derived.Deep.RegionHeld3
import Derived.Deep.LoopGhost
import Derived.Lib.ConvBytes
import Derived.Deep.CutBlock
import Derived.Test.YtjonkbdldebkiaaGreatDoorVMkClean4
import Derived.Deep.RegionWith
set_option linter.unusedVariables false
set_option linter.unusedSimpArgs false
set_option maxHeartbeats 16000000
set_option maxRecDepth 100000
namespace Mk
def z5m (n:Bs) (a:List At) (t:Bs) (k:Fo):List Tok:=if n=[] then [⟨1,[],[],t⟩] else ⟨2,n,a,[]⟩ :: (if z4f n then [] else flat k++[⟨3,n,[],[]⟩])
theorem q15 (n:Bs) (a:List At) (t:Bs) (k r:Fo):flat (.node n a t k r)=z5m n a t k++flat r:=by
 unfold z5m;rw[flat]
 split
 ·rfl
 ·simp
theorem q4k:∀ f:Fo,(flat f).length≤2 * f.bulk
 | .nil=>Nat.zero_le _
 | .node n a t k r=>by
  have h1:=q4k k;have h2:=q4k r;have e:Fo.bulk (.node n a t k r)=1 + n.length + t.length + Fo.atB a + Fo.bulk k + Fo.bulk r:=rfl;rw[q15,List.length_append,e];unfold z5m
  split
  ·simp;omega
  ·split
   ·simp;omega
   ·simp;omega
end Mk
namespace Go.Proofs.YtjonkbdldebkiaaGreatDoor
open Go.Proofs.Tryz Go.RowKit
theorem z0y.app {w:World} {K:Nat→Prop} {m:List Mk.Tok} {ys:List Value} (h2:z0y w K m ys):∀ {l:List Mk.Tok} {xs:List Value},z0y w K l xs→z0y w K (l++m) (xs++ys)
 | [],_,h=>by rw[h];exact h2
 | _ :: _,_,⟨va,zs,e1,e2,e3⟩=>⟨va,_,by rw[e1,List.append_assoc],e2,z0y.app h2 e3⟩
theorem z0y.one {w:World} {K:Nat→Prop}:∀ {l:List Mk.Tok} {xs:List Value},z0y w K l xs→∀ u ∈ xs,u.oneCell'=true
 | [],_,h,u,hu=>by rw[h] at hu;cases hu
 | _ :: _,_,⟨va,zs,e1,⟨ao,cap,e2,_⟩,e3⟩,u,hu=>by
  rw[e1] at hu
  rcases List.mem_append.1 hu with q | q
  ·simp at q
   rcases q with rfl | rfl | rfl | rfl
   ·rfl
   ·rfl
   ·rw[e2];rfl
   ·rfl
  ·exact e3.one u q
def KO (B:Nat) (w:World) (v:Value) (b:Nat):Prop:=B≤b∧b < w.heap.size∧v.ownBlock ≠ some b
structure OwnT (w:World) (B:Nat) (v:Value) (l:List Mk.Tok) (xs:List Value):Prop where
 own:w.ownsRow B 181 4 v l.length xs
 cells:z0y w (KO B w v) l xs
theorem OwnT.below {w w':World} {B:Nat} {v:Value} {l:List Mk.Tok} {xs:List Value} (h:OwnT w B v l xs) (hb:Below w.heap.size w w'):OwnT w' B v l xs :=
 ⟨V7 h.own (fun g e=>hb.block g (h.own.lt g e).2),h.cells.frame fun b q=>⟨⟨q.1,Nat.lt_of_lt_of_le q.2.1 hb.size,q.2.2⟩,hb.block b q.2.1⟩⟩
theorem OwnT.more {w w9 w10:World} {B:Nat} {v v':Value} {l l2:List Mk.Tok} {xs zs:List Value} (h:OwnT w B v l xs) (hb:Below w.heap.size w w9) (hown:w10.ownsRow B 181 4 v' (l.length + l2.length) (xs++zs)) (hg:w9.grownBy w10 v.ownBlock) (hf:v'.ownBlock=v.ownBlock∨v'.ownBlock=some w9.heap.size) (hz:z0y w9 (KO B w9 v) l2 zs):OwnT w10 B v' (l++l2) (xs++zs):=by
 have key:∀ b,KO B w9 v b→KO B w10 v' b∧w10.heap[b]? = w9.heap[b]?:=by
  rintro b ⟨q1,q2,q3⟩;refine⟨⟨q1,Nat.lt_of_lt_of_le q2 hg.size,fun e=>?_⟩,hg.block b q2 (fun e=>q3 e.symm)⟩
  rcases hf with e' | e'
  ·rw[e'] at e;exact q3 e
  ·rw[e'] at e;injection e with e;omega
 refine⟨by rw[List.length_append];exact hown,z0y.app (hz.frame key) (h.cells.frame fun b q=>?_)⟩;have q9:KO B w9 v b:=⟨q.1,Nat.lt_of_lt_of_le q.2.1 hb.size,q.2.2⟩;exact⟨(key b q9).1,(key b q9).2.trans (hb.block b q.2.1)⟩
theorem OwnT.toksV {w:World} {B:Nat} {v:Value} {l:List Mk.Tok} {xs:List Value} (h:OwnT w B v l xs):q1v w (fun g=>B≤g∧g < w.heap.size) v l:=by
 obtain⟨ao,cap,h1,h2,_,h4⟩:=z19.of_own (K:=fun g=>B≤g∧g < w.heap.size) h.own (fun g e=>h.own.lt g e);exact⟨ao,cap,xs,h1,h2,h.cells.frame fun b q=>⟨⟨q.1,q.2.1⟩,rfl⟩,h4⟩
def TokensC (f:Mk.Fo):Prop:=∀ (v:Value) (K:Nat→Prop) (w:World),FoV w K v f→(∀ b,K b→b < w.heap.size)→Calls prog 99 #[v] w fun e w'=>∃ v' xs,e=.returned v'∧OwnT w' w.heap.size v' (Mk.flat f) xs∧(Mk.flat f=[]→v'=.slice none 0 0)∧Below w.heap.size w w'
theorem q79 (N:Nat):∀ (f:Mk.Fo),f.bulk < N→f.bulk≤549755813888→TokensC f:=by
 induction N with
 | zero=>intro f hN;omega
 | succ N ih =>
  intro f hN hf v K w hv hK;obtain⟨gm,o,cap,hv1,hlen,hat⟩:=hv.at_
  have HAT:=Ld hat
  have hst:∀ l:List UInt8,(st l).toList=l:=fun l=>Lib.toList_data _
  have hfl:=Mk.q4k f;have hgl:=Mk.Fo.z1r f;clear hat
  rcases hv1 with ⟨hv1,hKg⟩ | ⟨ao,hv1,hnil⟩
  ·subst hv1
   have hgm:=hK gm hKg;clear hv;go_enter func99,ntmps99;go_wp2_with fail
   go_loopw [3,8] (fun u i wr=>∃ (k:Nat) (L:List Mk.Tok) (xs:List Value),k≤f.len∧i=.int .i64 k∧Hid (L++Mk.flat (f.drop k)=Mk.flat f)∧Hid (OwnT wr w.heap.size u L xs)∧Hid (L=[]→u=.slice none 0 0)∧Hid (Below w.heap.size w wr)) (fun _ i _=>f.len - (intOf i).toNat)
   case atStart=>exact⟨0,[],[],Nat.zero_le _,rfl,by show _=_;rw[Mk.Fo.drop_zero];rfl,⟨World.ownsRow_nil _ _ _ _,rfl⟩,fun _=>rfl,Below.refl _ _⟩
   case round =>
    obtain⟨k,L,xs,hk,rfl,HL,OT,HNL,BL⟩:=hrel;have hsz:=BL.out.size;obtain⟨aou,capu,hu⟩:=Z9 OT.out.own;subst hu
    by_cases hlt:k < f.len
    ·obtain⟨n,a,t,kk,r,hd,hd1⟩:=Mk.Fo.z6j f k hlt
     obtain⟨va,vk,c0,c1,c2,c3,hva,hvk⟩:=HAT.out k n a t kk r hd;rw[← BL.out.cell (p:=⟨gm,_,none⟩) hgm] at c0 c1 c2 c3;obtain⟨aoa,capa,hva1,_⟩:=id hva;obtain⟨aok,capk,xsk,hvk1,_⟩:=id hvk;subst hva1;subst hvk1;have hdb:(f.drop k).bulk=1 + n.length + t.length + Mk.Fo.atB a + kk.bulk + r.bulk:=by rw[hd];rfl
     have hdb2:=Mk.Fo.z1z f k;have hLL:L.length + (Mk.z5m n a t kk).length≤2 * f.bulk:=by
      have h:=HL.out;rw[hd,Mk.q15] at h;have:=congrArg List.length h;simp only [List.length_append] at this;omega
     have HL2:Hid ((L++Mk.z5m n a t kk)++Mk.flat (f.drop (k + 1))=Mk.flat f):=by
      show _=_;have h:=HL.out;rw[hd,Mk.q15] at h;rw[hd1,List.append_assoc];exact h
     have hal:=(Below.refl wr.heap.size wr).alloc (Lr) (.cells #[.string (st n),.slice aoa a.length capa,.string (st t),.slice aok kk.len capk] 53);have BL1:=Ld (BL.out.trans (hal.mono hsz));have OT1:=Ld (OT.out.below hal);have HVA:=Ld (hva.below hK BL1.out);have HVK:=Ld (hvk.below hK BL1.out);have PB:=Ld (Blk.new wr 53 #[.string (st n),.slice aoa a.length capa,.string (st t),.slice aok kk.len capk]);have HTC:=Ld (ih kk (by omega) (by omega));obtain⟨i0,hi,hz0,hz1,hz2⟩:=info_parts Tryz.infoTok;have hrN:∀ g,(Value.slice aou L.length capu).ownBlock=some g→g < wr.heap.size:=fun g e=>(OT.out.own.lt g e).2
     have HRN:=Ld hrN;have hatl:=Mk.z5f a;have hal9:a.length≤549755813888:=by omega
     clear HAT hal HL hd hd1 hva hvk OT BL hrN hdb2;go_upto_region 5 with fail;clear c0 c1 c2 c3;generalize wr.alloc (.cells #[.string (st n),.slice aoa a.length capa,.string (st t),.slice aok kk.len capk] 53)=w1 at BL1 OT1 HVA HVK PB ⊢;generalize wr.heap.size=M at PB HRN ⊢;have n0:w1.cell? ⟨M,0,none⟩=some (.string (st n)):=Blk.cell PB.out 0;have n1:w1.cell? ⟨M,1,none⟩=some (.slice aoa a.length capa):=Blk.cell PB.out 1;have n2:w1.cell? ⟨M,2,none⟩=some (.string (st t)):=Blk.cell PB.out 2;have n3:w1.cell? ⟨M,3,none⟩=some (.slice aok kk.len capk):=Blk.cell PB.out 3;have hMl:M < w1.heap.size:=Blk.lt PB.out;have hsz1:=BL1.out.size;have HMR:Hid ((Value.slice aou L.length capu).ownBlock ≠ some M):=fun e=>Nat.lt_irrefl _ (HRN.out M e)
     have hne:n=[]∨n.isEmpty=false:=by
      cases n with
      | nil=>exact .inl rfl
      | cons _ _=>exact .inr rfl
     rcases hne with hn | hn
     ·have he:n.isEmpty=true:=by rw[hn];rfl
      have hfo:Mk.z5m n a t kk=[⟨1,[],[],t⟩]:=by unfold Mk.z5m;rw[if_pos hn]
      rw[hfo] at HL2 hLL;clear hn hfo;have ow:=z0f OT1.out.own ((Ap.refl (fun _=>False) w1).alloc (.cells #[.int .i64 1,.string ⟨#[]⟩,.slice none 0 0,.string (st t)] 181)) (fun _ _ q=>q);have hal:=(Below.refl w1.heap.size w1).alloc (Lr) (.cells #[.int .i64 1,.string ⟨#[]⟩,.slice none 0 0,.string (st t)] 181);simp only [List.length_cons,List.length_nil] at hLL;go_wp2_with (at_builtin;refine J3 rfl _ _ 63 rfl w.heap.size 181 i0 (.agg #[.int .i64 0,.string ⟨#[]⟩,.slice none 0 0,.string ⟨#[]⟩]) 4 64 underlying63 hi hz0 hz1 hz2 rfl (by decide) _ _ _ rfl ow ⟨w1.heap.size,0,none⟩ 1 1 [.int .i64 1,.string ⟨#[]⟩,.slice none 0 0,.string (st t)] rfl rfl (z0h w1 _ _) (by intro u hu;simp at hu;rcases hu with rfl | rfl | rfl | rfl <;> rfl) (by decide) (by unfold maxLen;omega) (by omega) (by simp;omega) ?_);intro v9 w9 hown9 hg9 hf9;have OT9:=Ld (OT1.out.more (l2:=[⟨1,[],[],t⟩]) hal hown9 hg9 (by rw[World.size_alloc];exact hf9) ⟨.slice none 0 0,[],rfl,AtsV.nil _ _,rfl⟩);have BL9:=Ld ((BL1.out.trans (hal.mono hsz1)).grown hg9 (by simp;omega) (fun q hq=>(OT1.out.own.lt q hq).1));clear hown9 hg9 hf9 hal ow hi hz0 hz1 hz2;go_wp2_with fail;go_roundw
      case rel=>exact⟨k + 1,_,_,by omega,by go_num,HL2.out,OT9.out,fun e=>by simp at e,BL9.out⟩
      case measure=>simp[intOf];omega
     ·have hnn:n ≠ []:=by intro e;rw[e] at hn;cases hn
      have hfo:Mk.z5m n a t kk=⟨2,n,a,[]⟩ :: (if Mk.z4f n then [] else Mk.flat kk++[⟨3,n,[],[]⟩]):=by unfold Mk.z5m;rw[if_neg hnn]
      rw[hfo] at HL2 hLL;clear hnn hfo;have hL9:L.length≤1099511627776:=by omega
      go_upto_region 7 with fail;have HCL:Hid (∀ W,Below w1.heap.size w1 W→Calls prog 161 #[.slice aoa a.length capa] W fun e w'=>∃ v',e=.returned v'∧w'.ownsRow W.heap.size 56 2 v' a.length (Y8 a)∧Below W.heap.size W w'):=fun W hW=>q9a a _ K W (HVA.out.frame (fun g hg=>⟨hg,hW.block g (by have:=hK g hg;omega)⟩)) (fun g hg=>by have:=hK g hg;have:=hW.size;omega) (by omega)
      have HFR:Hid (∀ W:World,W.heap[M]? = w1.heap[M]?→W.cell? ⟨M,0,none⟩=some (.string (st n))∧W.cell? ⟨M,1,none⟩=some (.slice aoa a.length capa)):=fun W hW=>⟨(cell_of_block hW _).trans n0,(cell_of_block hW _).trans n1⟩
      go_cut [3] (fun u wx=>∃ L2 xs2 ao2 cap2,u=.slice ao2 L2.length cap2∧L2=L++[⟨2,n,a,[]⟩]∧Hid (OwnT wx w.heap.size u L2 xs2)∧Hid (Below w.heap.size w wx)∧Hid (wx.heap[M]? = w1.heap[M]?)∧Hid (∀ g,u.ownBlock=some g→g ≠ M))
      case first =>
       have HLL:=Ld hL9;clear n2 n3 HL2 hLL hk hdb hfl hgl hf hN hlen hlt hatl HTC HVK
       go_region_held3 (fun w'=>w'.cell? ⟨M,0,none⟩=some (.string (st n))∧w'.cell? ⟨M,1,none⟩=some (.slice aoa a.length capa)) (first
        | exact HFR.out _ rfl
        | exact HFR.out _ (hB7.block M hMl)
        | exact HFR.out _ ((hB7.alloc hB7.size _).block M hMl)
        | exact HFR.out _ hM9) (first | (go_at_call 161;refine(HCL.out _ (Below.refl _ _).drew).mono ?_;rintro e w7 ⟨v7,rfl,ow7,hb7⟩;obtain⟨ao7,cap7,rfl⟩:=Z9 ow7;have hB7:Below w1.heap.size w1 w7:=((Below.refl _ _).drew).trans (hb7.mono (Lr))) | (refine z0l rfl (.tmp 21) (.tmp 28) 63 rfl w.heap.size 181 i0 (.agg #[.int .i64 0,.string ⟨#[]⟩,.slice none 0 0,.string ⟨#[]⟩]) 4 64 underlying63 hi hz0 hz1 hz2 rfl (by decide) (.slice aou L.length capu) L.length xs (by simp[Act.eval,Act.put]) (z0f (OT1.out.below hB7).own ((Ap.refl (fun _=>False) w7).alloc (.cells #[.int .i64 2,.string (st n),.slice ao7 a.length cap7,.string ⟨#[]⟩] 181)) (fun _ _ q=>q)) ⟨w7.heap.size,0,none⟩ 1 1 [.int .i64 2,.string (st n),.slice ao7 a.length cap7,.string ⟨#[]⟩] (by simp[Act.eval,Act.put]) rfl (z0h w7 _ _) (by intro u hu;simp at hu;rcases hu with rfl | rfl | rfl | rfl <;> rfl) (by decide) (by have:=HLL.out;unfold maxLen;omega) (by have:=HLL.out;omega) (by have:=hB7.size;simp;omega) ?_;intro v9 w9 hown9 hg9 hf9;obtain⟨ao9,cap9,rfl⟩:=Z9 hown9;have hal7:=hB7.alloc hB7.size (.cells #[.int .i64 2,.string (st n),.slice ao7 a.length cap7,.string ⟨#[]⟩] 181);have hM9:w9.heap[M]? = w1.heap[M]?:=(hg9.block M (Nat.lt_of_lt_of_le hMl hal7.size) (fun e=>HMR.out e.symm)).trans (hal7.block M hMl);have hne9:∀ g,(Value.slice ao9 (L.length + 1) cap9).ownBlock=some g→g ≠ M:=(fun g e q=>hf9.elim (fun e'=>HMR.out (by rw[← e',e,q])) (fun e'=>by rw[e'] at e;injection e with e;have:=hal7.size;subst q;rw[← e] at hMl;omega));have OT9:=(OT1.out.more (l2:=[⟨2,n,a,[]⟩]) hal7 hown9 hg9 hf9 ⟨.slice ao7 a.length cap7,[],rfl,(AtsV.of_own (K:=fun g=>w1.heap.size≤g∧g < w7.heap.size) ow7 (fun g hg=>ow7.lt g hg)).frame (fun g hg=>⟨⟨Nat.le_trans hsz1 hg.1,by have:=hg.2;simp;omega,fun e=>by have:=(OT1.out.own.lt g e).2;have:=hg.1;omega⟩,Below.heap_alloc w7 _ g hg.2⟩),rfl⟩);have BL9:=((BL1.out.trans (hal7.mono hsz1)).grown hg9 (by have:=hal7.size;omega) (fun q hq=>(OT1.out.own.lt q hq).1))))
       all_goals
        have HREL:=Ld (And.intro OT9 (And.intro BL9 (And.intro hM9 hne9)));clear OT9 BL9 hM9 hne9 hown9 hg9 hf9 hal7 hB7 hb7 HFR HCL ow7 hi hz0 hz1 hz2 OT1 BL1;go_wp2_with fail;go_meet
        case rel=>exact⟨L++[(⟨2,n,a,[]⟩:Mk.Tok)],_,ao9,cap9,by rw[List.length_append];rfl,rfl,HREL.out.1,HREL.out.2.1,HREL.out.2.2.1,HREL.out.2.2.2⟩
      case rest =>
       obtain⟨L2,xs2,ao2,cap2,rfl,hL2,OT2,BL2,HM2,HN2⟩:=hcut;obtain⟨wb,hwb⟩:∃ x,x=wc:=⟨_,rfl⟩;subst hwb;have m0:wb.cell? ⟨M,0,none⟩=some (.string (st n)):=(cell_of_block HM2.out _).trans n0;have m3:wb.cell? ⟨M,3,none⟩=some (.slice aok kk.len capk):=(cell_of_block HM2.out _).trans n3;have hMb:M < wb.heap.size:=Blk.lt (show Blk wb M _ _ from HM2.out.trans PB.out);have hl2:L2.length=L.length + 1:=by rw[hL2,List.length_append];rfl
       have HLN:Hid (L2 ≠ []):=by intro e;rw[e] at hl2;simp at hl2
       have HVK2:Hid (FoV wb K (.slice aok kk.len capk) kk):=HVK.out.frame (fun b q=>⟨q,by
        have h1:=BL1.out.block b (hK b q);have h2:=BL2.out.block b (hK b q);rw[h1,h2]⟩)
       have hszb:=BL2.out.size;have HL3:Hid (L2++((if Mk.z4f n then [] else Mk.flat kk++[⟨3,n,[],[]⟩])++Mk.flat (f.drop (k + 1)))=Mk.flat f):=by
        show _=_;rw[hL2,← HL2.out];simp
       have hl3:L2.length + (if Mk.z4f n then [] else Mk.flat kk++[(⟨3,n,[],[]⟩:Mk.Tok)]).length≤2 * f.bulk:=by
        simp only [List.length_cons] at hLL;omega
       have hem:=j0e n wb;obtain⟨eb,heb⟩:∃ eb,Mk.z4f n=eb:=⟨_,rfl⟩;rw[heb] at hem HL3 hl3;have HEM:=Ld hem;clear hl2;clear hem heb HL2 hLL n0 n1 n2 n3 OT1 HVA HVK HFR HCL HMR HRN hL2 PB
       cases eb with
       | true =>
        have HL4:Hid (L2++Mk.flat (f.drop (k + 1))=Mk.flat f):=by show _=_;have h:=HL3.out;simpa using h
        go_wp2_with fail;refine HEM.out.mono ?_;rintro e w5 ⟨rfl,hw5⟩;subst w5;clear m0 m3 HEM HL3;go_wp2_with fail;go_roundw
        case rel=>exact⟨k + 1,L2,xs2,by omega,by go_num,HL4.out,OT2.out,fun e=>absurd e HLN.out,BL2.out⟩
        case measure=>simp[intOf];omega
       | false =>
        have HL4:Hid (L2++((Mk.flat kk++[⟨3,n,[],[]⟩])++Mk.flat (f.drop (k + 1)))=Mk.flat f):=by show _=_;have h:=HL3.out;simpa using h
        have hl4:L2.length + ((Mk.flat kk).length + 1)≤2 * f.bulk:=by
         have h:=hl3;simp only [Bool.false_eq_true,if_false,List.length_append,List.length_cons,List.length_nil] at h;omega
        go_wp2_with fail;refine HEM.out.mono ?_;rintro e w5 ⟨rfl,hw5⟩;subst w5;clear HEM HL3 hl3;go_upto_region 9 with fail;have HTK:=Ld (HTC.out (.slice aok kk.len capk) K wb HVK2.out (fun b q=>Nat.lt_of_lt_of_le (hK b q) hszb))
        go_cut [3] (fun u wx=>∃ L7 xs7 ao7 cap7,u=.slice ao7 L7.length cap7∧L7=L2++Mk.flat kk∧Hid (OwnT wx w.heap.size u L7 xs7)∧Hid (Below w.heap.size w wx)∧Hid (wx.heap[M]? = wb.heap[M]?))
        case first =>
         clear HL4 m0 hk hdb hlen hlt hatl HTC HVK2 hal9;go_wp2_with fail;refine HTK.out.mono ?_;rintro e w6 ⟨v6,xs6,rfl,ot6,hnil6,hb6⟩;have OT6:=Ld ot6;have OT26:=Ld (OT2.out.below hb6);have HM6:Hid (w6.heap[M]? = wb.heap[M]?):=hb6.block M hMb;have BL6:=Ld (BL2.out.trans (hb6.mono hszb));have HB6:=Ld hb6;have hsz6:=BL6.out.size;have HNIL:=Ld hnil6;clear ot6 hb6 hnil6 HTK m3
         rcases Nat.eq_zero_or_pos (Mk.flat kk).length with h0 | h0
         ·have hfk:Mk.flat kk=[]:=List.eq_nil_of_length_eq_zero h0
          have hv6:=HNIL.out hfk;subst hv6;have HE:Hid (OwnT w6 w.heap.size (.slice ao2 L2.length cap2) (L2++Mk.flat kk) xs2):=by show OwnT _ _ _ _ _;rw[hfk,List.append_nil];exact OT26.out
          have HE2:Hid (L2.length=(L2++Mk.flat kk).length):=by show _=_;rw[hfk,List.append_nil]
          clear hfk;go_wp2_with (at_builtin;refine wpList_append_own_none rfl _ _ 63 rfl w.heap.size 181 i0 4 underlying63 hi (.slice ao2 L2.length cap2) L2.length xs2 rfl OT26.out.own rfl ?_);go_wp2_with fail;go_meet
          case rel=>exact⟨L2++Mk.flat kk,xs2,ao2,cap2,by rw[← HE2.out],rfl,HE.out,BL6.out,HM6.out⟩
         ·rcases OT6.out.own.2 with ⟨hv,hn0⟩ | ⟨g6,cap6,cur6,hv,_⟩
          ·omega
          ·subst hv
           have HCE:=Ld (OT6.out.own.cells (g:=g6) rfl);have hl6:xs6.length=(Mk.flat kk).length * 4:=OT6.out.own.1;have HZ:Hid (z0y w6 (KO w.heap.size w6 (.slice ao2 L2.length cap2)) (Mk.flat kk) xs6):=OT6.out.cells.frame (fun b q=>⟨⟨Nat.le_trans hszb q.1,q.2.1,fun e=>by have:=(OT2.out.own.lt b e).2;have:=q.1;omega⟩,rfl⟩);go_wp2_with (at_builtin;refine J3 rfl _ _ 63 rfl w.heap.size 181 i0 (.agg #[.int .i64 0,.string ⟨#[]⟩,.slice none 0 0,.string ⟨#[]⟩]) 4 64 underlying63 hi hz0 hz1 hz2 rfl (by decide) _ _ _ rfl OT26.out.own ⟨g6,0,none⟩ (Mk.flat kk).length cap6 xs6 rfl hl6 HCE.out OT6.out.cells.one h0 (by unfold maxLen;omega) (by omega) (by omega) ?_);intro v9 w9 hown9 hg9 hf9;obtain⟨ao9,cap9,rfl⟩:=Z9 hown9;have OT9:=Ld (OT26.out.more (Below.refl _ _) hown9 hg9 hf9 HZ.out);have BL9:=Ld (BL6.out.grown hg9 (by omega) (fun q hq=>(OT26.out.own.lt q hq).1));have HM9:Hid (w9.heap[M]? = wb.heap[M]?):=(hg9.block M (Nat.lt_of_lt_of_le hMb HB6.out.size) (fun e=>HN2.out M e.symm rfl)).trans HM6.out;clear hown9 hg9 hf9 hi hz0 hz1 hz2 HCE HZ OT6 OT26 OT2;go_wp2_with fail;go_meet
           case rel=>exact⟨L2++Mk.flat kk,_,ao9,cap9,by rw[List.length_append],rfl,OT9.out,BL9.out,HM9.out⟩
        case rest =>
         obtain⟨L7,xs7,ao7,cap7,rfl,hL7,OT7,BL7,HM7⟩:=hcut;obtain⟨wd,hwd⟩:∃ x,x=wc:=⟨_,rfl⟩;subst hwd;have d0:wd.cell? ⟨M,0,none⟩=some (.string (st n)):=(cell_of_block HM7.out _).trans m0;have hl7:L7.length + 1≤2 * f.bulk:=by rw[hL7,List.length_append];omega
         have HL5:Hid ((L7++[⟨3,n,[],[]⟩])++Mk.flat (f.drop (k + 1))=Mk.flat f):=by show _=_;rw[hL7,← HL4.out];simp
         have hsz7:=BL7.out.size;clear hL7 HL4 hl4 HTK HTC HVK2 OT2 m0 m3;have ow:=z0f OT7.out.own ((Ap.refl (fun _=>False) wd).alloc (.cells #[.int .i64 3,.string (st n),.slice none 0 0,.string ⟨#[]⟩] 181)) (fun _ _ q=>q);have hal:=(Below.refl wd.heap.size wd).alloc (Lr) (.cells #[.int .i64 3,.string (st n),.slice none 0 0,.string ⟨#[]⟩] 181);go_wp2_with (at_builtin;refine J3 rfl _ _ 63 rfl w.heap.size 181 i0 (.agg #[.int .i64 0,.string ⟨#[]⟩,.slice none 0 0,.string ⟨#[]⟩]) 4 64 underlying63 hi hz0 hz1 hz2 rfl (by decide) _ _ _ rfl ow ⟨wd.heap.size,0,none⟩ 1 1 [.int .i64 3,.string (st n),.slice none 0 0,.string ⟨#[]⟩] rfl rfl (z0h wd _ _) (by intro u hu;simp at hu;rcases hu with rfl | rfl | rfl | rfl <;> rfl) (by decide) (by unfold maxLen;omega) (by omega) (by simp;omega) ?_);intro v9 w9 hown9 hg9 hf9;have OT9:=Ld (OT7.out.more (l2:=[⟨3,n,[],[]⟩]) hal hown9 hg9 (by rw[World.size_alloc];exact hf9) ⟨.slice none 0 0,[],rfl,AtsV.nil _ _,rfl⟩);have BL9:=Ld ((BL7.out.trans (hal.mono hsz7)).grown hg9 (by simp;omega) (fun q hq=>(OT7.out.own.lt q hq).1));clear hown9 hg9 hf9 hal ow hi hz0 hz1 hz2 d0;go_wp2_with fail;go_roundw
         case rel=>exact⟨k + 1,_,_,by omega,by go_num,HL5.out,OT9.out,fun e=>by simp at e,BL9.out⟩
         case measure=>simp[intOf];omega
    ·have hke:k=f.len:=by omega
     rw[hke,Mk.Fo.z4e] at HL;have HL2:Hid (L=Mk.flat f):=by have h:=HL.out;rwa [show Mk.flat .nil=[] from rfl,List.append_nil] at h
     clear HL HAT;go_wp2_with fail;go_ret;exact⟨_,xs,rfl,by rw[← HL2.out];exact OT.out,by rw[← HL2.out];exact HNL.out,BL.out⟩
  ·subst hnil
   subst hv1;clear HAT hv;go_enter func99,ntmps99;go_wp2_with fail
   go_loopw [3,8] (fun u i wr=>u=.slice none 0 0∧i=.int .i64 0∧wr=w) (fun _ _ _=>0)
   case atStart=>exact⟨rfl,rfl,rfl⟩
   case round =>
    obtain⟨rfl,rfl,rfl⟩:=hrel;go_wp2_with fail;go_ret;exact⟨_,[],rfl,⟨World.ownsRow_nil _ _ _ _,rfl⟩,fun _=>rfl,Below.refl _ _⟩
end Go.Proofs.YtjonkbdldebkiaaGreatDoor
namespace Go.Proofs.YtjonkbdldebkiaaGreatDoor
open Go.RowKit

end Go.Proofs.YtjonkbdldebkiaaGreatDoor
namespace Go.Proofs.YtjonkbdldebkiaaGreatDoor
open Go.Proofs.Tryz Go.RowKit

theorem z2m (b:Nat) (i:List UInt8) (p:ByteArray) (pl:List UInt8) (hp:p.data.toList=pl) (w:World) (hc:w.cell? ⟨b,0,none⟩=some (.string (st i))) :
  Calls prog 228 #[.pointer (some ⟨b,0,none⟩),.string p,.bool false] w fun e w'=>e=.returned (.bool (Mg.pre pl i))∧w=w':=by
 subst hp;go_enter func228,ntmps228;go_wp2_with (go_at_call 254;refine(Tryz.strings_HasPrefix _ _ _).mono ?_;rintro e w' ⟨rfl,hw⟩;rw[hw]);go_ret;exact⟨Z8 (pre_eq _ _),rfl⟩
theorem z2l (b:Nat) (i:List UInt8) (p:ByteArray) (pl:List UInt8) (hp:p.data.toList=pl) (w:World) (hc:w.cell? ⟨b,0,none⟩=some (.string (st i))) :
  Calls prog 228 #[.pointer (some ⟨b,0,none⟩),.string p,.bool true] w fun e w'=>e=.returned (.bool (i == pl))∧w=w':=by
 subst hp;have hst:∀ s:ByteArray,s.toList=s.data.toList:=fun s=>Lib.toList_data s
 go_enter func228,ntmps228;go_wp2;go_ret;refine⟨Z8 ?_,rfl⟩;rw[Bool.eq_iff_iff,beq_iff_eq,beq_iff_eq];constructor
 ·intro h;rw[← h];rfl
 ·intro h;rw[h];rfl

def sv (l:List (List UInt8)):List Value:=l.map fun s=>Value.string (st s)
structure DSt (b:Nat) (w wk:World) (i:List UInt8) (o:List (List UInt8)) (v:Value):Prop where
 below:Below b w wk
 blk:Blk wk b 231 #[.string (st i),v]
 own:wk.ownsRow (b + 1) 9 1 v o.length (sv o)

theorem sv_len (l:List (List UInt8)):(sv l).length=l.length:=by simp[sv]
theorem DSt.pop {b:Nat} {w wk:World} {i:List UInt8} {o:List (List UInt8)} {g cap:Nat} (h:DSt b w wk i o (.slice (some ⟨g,0,none⟩) o.length cap)) (hpos:0 < o.length) :
  DSt b w (wk.setCell ⟨b,1,none⟩ (.slice (some ⟨g,0,none⟩) (o.length - 1) cap)) i o.dropLast (.slice (some ⟨g,0,none⟩) (o.length - 1) cap):=by
 refine⟨h.below.setCell (Lr) _,h.blk.set_ 1 _,?_⟩;rw[List.length_dropLast];refine ownsRow_setCell_below ?_ (by show b < b + 1;omega) _;obtain⟨n,hn⟩:∃ n,o.length=n + 1:=⟨o.length - 1,by omega⟩;have hne:o ≠ []:=by rintro rfl;cases hpos
 have hs:sv o=sv o.dropLast++[Value.string (st (o.getLast hne))]:=by
  conv=>lhs;rw[← List.dropLast_concat_getLast hne]
  simp[sv]
 have ho:=h.own;rw[hs,hn] at ho;rw[hn];exact ownsRow_pop (by rw[sv_len,List.length_dropLast];omega) ho

theorem z9o (b:Nat) (w wk:World) (i:List UInt8) (o:List (List UInt8)) (v:Value) (h:DSt b w wk i o v) (hl:o.length≤67108864) :
  Calls prog 229 #[.pointer (some ⟨b,0,none⟩)] wk fun e w'=>e=.returned (.tuple #[])∧∃ v',DSt b w w' i o.dropLast v':=by
 have c0:wk.cell? ⟨b,1,none⟩=some v:=h.blk.cell 1;have f0:wk.frozen? ⟨b,1,none⟩=false:=h.blk.frozen 1
 rcases h.own.2 with ⟨rfl,h0⟩ | ⟨g,cap,cur,rfl,_,_,hnc,hcm,_⟩
 ·have ho:o=[]:=List.eq_nil_of_length_eq_zero h0
  subst ho;go_enter func229,ntmps229;go_wp2;go_end0;exact⟨rfl,_,h⟩
 ·by_cases hpos:0 < o.length
  ·go_enter func229,ntmps229
   go_wp2;go_end0;exact⟨rfl,_,h.pop hpos⟩
  ·have ho:o=[]:=List.eq_nil_of_length_eq_zero (by omega)
   subst ho;go_enter func229,ntmps229;go_wp2;go_end0;exact⟨rfl,_,h⟩

theorem z4i {P:Program} {w:World} {ops:Array Oper} {o:Oper} {a:Act} {K:Act→World→Prop} {Q:Exit→Act→World→Prop} {E:Prop} (hgd:o.guard=none) (s x:Operand) (t:TypeId)
  (ho:o.op=.call { callee:=.builtin .append,args:=#[s,x],argTypes:=#[t,t] })
  (base:Nat) (e:TypeId) (i:TypeInfo) (z:Value) (size bytes:Nat) (ht:P.underlying t=some (.slice e)) (hi:P.info? e=some i) (hz:i.zero=some z)
  (hsize:i.size=size) (hby:i.bytes=bytes) (hzs:z.cells.size=size) (hsz:0 < size)
  (v:Value) (n:Nat) (xs:List Value) (hs:a.eval s=v) (hown:w.ownsRow base e size v n xs)
  (ad:Addr) (m c:Nat) (news:List Value) (hx:a.eval x=.slice (some ad) m c) (hl:news.length=m * size) (hnews:∀ j u,news[j]? = some u→w.cell? (ad.add j)=some u) (h1:∀ u ∈ news,u.oneCell'=true)
  (h63:n + m≤maxLen) (hbytes:(n + m) * bytes≤140737488355328) (hbase:base≤w.heap.size)
  (h:∀ v' w',w'.ownsRow base e size v' (n + m) (xs++news)→w.grownBy w' v.ownBlock→(v'=.slice none 0 0↔v=.slice none 0 0∧m=0)→K (a.put o.dst v') w') :
  if Region.wanted o (yielded ops a.tmps)=true then Oper.wp P o a w K Q else E:=by
 have hw:Region.wanted o (yielded ops a.tmps)=true:=by simp[Region.wanted,hgd]
 rw[if_pos hw];exact wp_append_own w s x t ho base e i z size bytes ht hi hz hsize hby hzs hsz v n xs hs hown ad m c news hx hl hnews h1 h63 hbytes hbase h

theorem Tryz.infoS:(prog.info? 9).map (fun i=>(i.zero,i.size,i.bytes))=some (some (.string ⟨#[]⟩),1,16):=by kernel_rfl
def Stepped (b:Nat) (w:World) (i:List UInt8) (o:List (List UInt8)) (e:Ending) (w':World):Prop :=
 e=.returned (.tuple #[])∧∃ v',DSt b w w' (Mg.z0a i).2.1 (Mg.z8f i o) v'

theorem z1a {p l:List UInt8} (h:Mg.pre p l=true):(p.length:Int)≤(st l).size:=by
 have h1:l.take p.length=p:=by simpa [Mg.pre] using h
 have:=congrArg List.length h1;rw[List.length_take] at this;simp only [Z4];omega
theorem q4x {p l:List UInt8} {n:Nat} (hn:p.length=n) (h:Mg.pre p l=true):l.take n=p:=by subst hn;simpa [Mg.pre] using h
theorem z1p {p l:List UInt8} {n:Nat} (hn:p.length=n) (h:Mg.pre p l=false):¬ l.take n=p:=by subst hn;simpa [Mg.pre] using h
section
variable {i : List UInt8} (t1 : Mg.pre [46,46,47] i = false) (t2 : Mg.pre [46,47] i = false) (t3 : Mg.pre [47,46,47] i = false) (t4 : (i == [47,46]) = false) (t5 : Mg.pre [47,46,46,47] i = false) (t6 : (i == [47,46,46]) = false)
theorem dm_1 (t:Mg.pre [46,46,47] i=true):Mg.z0a i=(false,i.drop 3,[]):=by
 unfold Mg.z0a;rw[if_pos (q4x (n:=3) rfl t)]
include t1 in
theorem dm_2 (t:Mg.pre [46,47] i=true):Mg.z0a i=(false,i.drop 2,[]):=by
 unfold Mg.z0a;rw[if_neg (z1p (n:=3) rfl t1),if_pos (q4x (n:=2) rfl t)]
include t1 t2 in
theorem dm_3 (t:Mg.pre [47,46,47] i=true):Mg.z0a i=(false,i.drop 2,[]):=by
 unfold Mg.z0a;rw[if_neg (z1p (n:=3) rfl t1),if_neg (z1p (n:=2) rfl t2),if_pos (q4x (n:=3) rfl t)]
include t1 t2 t3 in
theorem dm_4 (t:(i == [47,46])=true):Mg.z0a i=(false,[47],[]):=by
 unfold Mg.z0a;rw[if_neg (z1p (n:=3) rfl t1),if_neg (z1p (n:=2) rfl t2),if_neg (z1p (n:=3) rfl t3),if_pos (beq_iff_eq.1 t)]
include t1 t2 t3 t4 in
theorem dm_5 (t:Mg.pre [47,46,46,47] i=true):Mg.z0a i=(true,i.drop 3,[]):=by
 unfold Mg.z0a;rw[if_neg (z1p (n:=3) rfl t1),if_neg (z1p (n:=2) rfl t2),if_neg (z1p (n:=3) rfl t3),if_neg (beq_eq_false_iff_ne.1 t4),if_pos (q4x (n:=4) rfl t)]
include t1 t2 t3 t4 t5 in
theorem dm_6 (t:(i == [47,46,46])=true):Mg.z0a i=(true,[47],[]):=by
 unfold Mg.z0a;rw[if_neg (z1p (n:=3) rfl t1),if_neg (z1p (n:=2) rfl t2),if_neg (z1p (n:=3) rfl t3),if_neg (beq_eq_false_iff_ne.1 t4),if_neg (z1p (n:=4) rfl t5),if_pos (beq_iff_eq.1 t)]
include t1 t2 t3 t4 t5 t6 in
theorem dm_7 (t:(i == [46])=true∨(i == [46,46])=true):Mg.z0a i=(false,[],[]):=by
 unfold Mg.z0a;rw[if_neg (z1p (n:=3) rfl t1),if_neg (z1p (n:=2) rfl t2),if_neg (z1p (n:=3) rfl t3),if_neg (beq_eq_false_iff_ne.1 t4),if_neg (z1p (n:=4) rfl t5),if_neg (beq_eq_false_iff_ne.1 t6),if_pos (t.imp beq_iff_eq.1 beq_iff_eq.1)]
include t1 t2 t3 t4 t5 t6 in
theorem dm_8 (t7:(i == [46])=false) (t8:(i == [46,46])=false):Mg.z0a i=(false,i.tail.dropWhile (· != 47),i.take 1++i.tail.takeWhile (· != 47)):=by
 unfold Mg.z0a;rw[if_neg (z1p (n:=3) rfl t1),if_neg (z1p (n:=2) rfl t2),if_neg (z1p (n:=3) rfl t3),if_neg (beq_eq_false_iff_ne.1 t4),if_neg (z1p (n:=4) rfl t5),if_neg (beq_eq_false_iff_ne.1 t6),if_neg (by rintro (h | h);exact beq_eq_false_iff_ne.1 t7 h;exact beq_eq_false_iff_ne.1 t8 h)]
end
theorem z6x {i r:List UInt8} {o:List (List UInt8)} (h:Mg.z0a i=(false,r,[])):Mg.z8f i o=o:=by simp[Mg.z8f,h]
theorem q2v {i r:List UInt8} {o:List (List UInt8)} (h:Mg.z0a i=(true,r,[])):Mg.z8f i o=o.dropLast:=by simp[Mg.z8f,h]
theorem DSt.left {b:Nat} {w wk:World} {i:List UInt8} {o:List (List UInt8)} {v:Value} (h:DSt b w wk i o v) (i':List UInt8):DSt b w (wk.setCell ⟨b,0,none⟩ (.string (st i'))) i' o v :=
 ⟨h.below.setCell (Lr) _,h.blk.set_ 0 _,ownsRow_setCell_below h.own (by show b < b + 1;omega) _⟩

theorem DSt.grow {b:Nat} {w wk w':World} {i:List UInt8} {o:List (List UInt8)} {v:Value} {O:Obj} (h:DSt b w wk i o v) (hg:(wk.alloc O).drew.grownBy w' v.ownBlock):Blk w' b 231 #[.string (st i),v]∧Below b w w':=by
 have hlt:=h.own.lt;have e1:(wk.alloc O).drew.heap.size=wk.heap.size + 1:=by simp
 have hl:=h.blk.lt;refine⟨?_,?_⟩
 ·refine((h.blk.alloc O).drew).grown hg ?_
  intro e;have:=(hlt b e.symm).1;omega
 ·have h1:Below b w (wk.alloc O).drew:=(h.below.alloc (by omega) O).drew
  exact h1.grown hg (by omega) (fun k hk=>by have:=(hlt k hk).1;omega)
theorem own_form {w:World} {base size n:Nat} {e:TypeId} {v:Value} {xs:List Value} (h:w.ownsRow base e size v n xs) (hn:0 < n):∃ g cap,v=.slice (some ⟨g,0,none⟩) n cap:=by
 rcases h.2 with ⟨_,h0⟩ | ⟨g,cap,cur,rfl,_⟩
 ·omega
 ·exact⟨g,cap,rfl⟩
theorem DSt.grown {b n:Nat} {w w':World} {i:List UInt8} {o:List (List UInt8)} {v v':Value} (hb:Blk w' b 231 #[.string (st i),v]) (hl:Below b w w') (ho:w'.ownsRow (b + 1) 9 1 v' (o.length + 1) (sv o++[Value.string ((st i).extract 0 n)])) :
  DSt b w (w'.setCell ⟨b,1,none⟩ v') i (o++[i.take n]) v':=by
 refine⟨hl.setCell (Lr) _,hb.set_ 1 _,ownsRow_setCell_below ?_ (by show b < b + 1;omega) _⟩;rw[z3r] at ho;have e:sv (o++[i.take n])=sv o++[Value.string (st (i.take n))]:=by simp[sv]
 rw[e,List.length_append];exact ho
theorem j1w (l:List UInt8) :
  (Lib.indexByte l 47 = -1∧l.takeWhile (· != 47)=l∧l.dropWhile (· != 47)=[]) ∨
  ∃ k,k < l.length∧Lib.indexByte l 47=(k:Nat)∧l.takeWhile (· != 47)=l.take k∧l.dropWhile (· != 47)=l.drop k:=by
 induction l with
 | nil=>exact .inl ⟨rfl,rfl,rfl⟩
 | cons c t ih =>
  rw[Lib.indexByte]
  by_cases hc:c=47
  ·right
   exact⟨0,by simp,by simp[hc],by simp[hc],by simp[hc]⟩
  ·have hb:(c == 47)=false:=beq_eq_false_iff_ne.2 hc
   rw[hb]
   rcases ih with ⟨h1,h2,h3⟩ | ⟨k,h1,h2,h3,h4⟩
   ·left
    simp only [h1];refine⟨rfl,?_,?_⟩
    ·rw[List.takeWhile_cons,if_pos (by simpa using hc),h2]
    ·rw[List.dropWhile_cons,if_pos (by simpa using hc),h3]
   ·right
    refine⟨k + 1,by simp;omega,?_,?_,?_⟩
    ·rw[h2]
     have:¬ (((k:Nat):Int) == -1)=true:=by rw[beq_iff_eq];omega
     simp[this]
    ·rw[List.takeWhile_cons,if_pos (by simpa using hc),h3];rfl
    ·rw[List.dropWhile_cons,if_pos (by simpa using hc),h4];rfl
theorem j1q (i:List UInt8) (hi:i ≠ []):∃ n,1≤n∧n≤i.length∧i.take 1++i.tail.takeWhile (· != 47)=i.take n∧i.tail.dropWhile (· != 47)=i.drop n∧((Lib.indexByte i.tail 47 = -1∧n=i.length)∨Lib.indexByte i.tail 47=(n:Int) - 1):=by
 obtain⟨c,t,rfl⟩:=List.exists_cons_of_ne_nil hi
 rcases j1w t with ⟨h1,h2,h3⟩ | ⟨k,h1,h2,h3,h4⟩
 ·exact⟨t.length + 1,by omega,by simp,by simp[h2],by simp[h3],.inl ⟨h1,by simp⟩⟩
 ·refine⟨k + 1,by omega,by simp;omega,by simp[h3],by simp[h4],.inr ?_⟩
  simp only [List.tail_cons];omega
theorem j4c (s:ByteArray) (w:World):Calls prog 230 #[.string s,.int .u8 47] w fun e w'=>e=.returned (.int .i64 (Lib.indexByte s.data.toList 47))∧w=w' :=
 (Tryz.strings_IndexByte s 47 w).mono fun e w' ⟨he,hw⟩=>⟨he,hw.symm⟩

theorem q5w (b:Nat) (w wk:World) (i:List UInt8) (o:List (List UInt8)) (v:Value) (h:DSt b w wk i o v) (hi:i ≠ []) (hl:o.length + i.length≤67108864) :
  Calls prog 183 #[.pointer (some ⟨b,0,none⟩)] wk (Stepped b w i o):=by
 obtain⟨i0,hi0,hz0,hz1,hz2⟩:=info_parts Tryz.infoS;have c0:wk.cell? ⟨b,0,none⟩=some (.string (st i)):=h.blk.cell 0;have c1:wk.cell? ⟨b,1,none⟩=some v:=h.blk.cell 1;have f0:wk.frozen? ⟨b,0,none⟩=false:=h.blk.frozen 0;have f1:wk.frozen? ⟨b,1,none⟩=false:=h.blk.frozen 1;go_enter func183,ntmps183;go_wp2_with fail;refine(z2m b i _ [46,46,47] rfl _ c0).mono ?_;rintro e w1 ⟨rfl,rfl⟩
 cases t1:Mg.pre [46,46,47] i with
 | true =>
  have hz:(3:Int)≤(st i).size:=z1a t1;have T:=Ld (dm_1 t1);clear t1;go_wp2_with fail;go_end0;exact⟨rfl,_,by rw[T.out,z6x T.out,z0p];exact h.left _⟩
 | false =>
 go_wp2_with fail;refine(z2m b i _ [46,47] rfl _ c0).mono ?_;rintro e w1 ⟨rfl,rfl⟩
 cases t2:Mg.pre [46,47] i with
 | true =>
  have hz:(2:Int)≤(st i).size:=z1a t2;have T:=Ld (dm_2 t1 t2);clear t1 t2;go_wp2_with fail;go_end0;exact⟨rfl,_,by rw[T.out,z6x T.out,z0p];exact h.left _⟩
 | false =>
 go_wp2_with fail;refine(z2m b i _ [47,46,47] rfl _ c0).mono ?_;rintro e w1 ⟨rfl,rfl⟩
 cases t3:Mg.pre [47,46,47] i with
 | true =>
  have hz:(2:Int)≤(st i).size:=by have h3:(3:Int)≤(st i).size:=z1a t3;omega
  have T:=Ld (dm_3 t1 t2 t3);clear t1 t2 t3;go_wp2_with fail;go_end0;exact⟨rfl,_,by rw[T.out,z6x T.out,z0p];exact h.left _⟩
 | false =>
 go_wp2_with fail;refine(z2l b i _ [47,46] rfl _ c0).mono ?_;rintro e w1 ⟨rfl,rfl⟩
 cases t4:i == [47,46] with
 | true =>
  have T:=Ld (dm_4 t1 t2 t3 t4);clear t1 t2 t3 t4;go_wp2_with fail;go_end0;exact⟨rfl,_,by rw[T.out,z6x T.out];exact h.left [47]⟩
 | false =>
 go_wp2_with fail;refine(z2m b i _ [47,46,46,47] rfl _ c0).mono ?_;rintro e w1 ⟨rfl,rfl⟩
 cases t5:Mg.pre [47,46,46,47] i with
 | true =>
  have hz:(3:Int)≤(st i).size:=by have h4:(4:Int)≤(st i).size:=z1a t5;omega
  have T:=Ld (dm_5 t1 t2 t3 t4 t5);clear t1 t2 t3 t4 t5;have h2:=h.left (i.drop 3);rw[← z1o i,← z0p] at h2;go_wp2_with fail;refine(z9o b w _ _ o v h2 (by omega)).mono ?_;rintro e w2 ⟨rfl,v2,h3⟩;go_wp2_with fail;go_end0;exact⟨rfl,_,by rw[T.out,q2v T.out];exact h3⟩
 | false =>
 go_wp2_with fail;refine(z2l b i _ [47,46,46] rfl _ c0).mono ?_;rintro e w1 ⟨rfl,rfl⟩
 cases t6:i == [47,46,46] with
 | true =>
  have T:=Ld (dm_6 t1 t2 t3 t4 t5 t6);clear t1 t2 t3 t4 t5 t6;have h2:=h.left [47];go_wp2_with fail;refine(z9o b w _ _ o v h2 (by omega)).mono ?_;rintro e w2 ⟨rfl,v2,h3⟩;go_wp2_with fail;go_end0;exact⟨rfl,_,by rw[T.out,q2v T.out];exact h3⟩
 | false =>
 go_wp2_with fail;refine(z2l b i _ [46] rfl _ c0).mono ?_;rintro e w1 ⟨rfl,rfl⟩
 cases t7:i == [46] with
 | true =>
  have T:=Ld (dm_7 t1 t2 t3 t4 t5 t6 (.inl t7));clear t1 t2 t3 t4 t5 t6 t7;go_wp2_with fail;go_end0;exact⟨rfl,_,by rw[T.out,z6x T.out];exact h.left []⟩
 | false =>
 go_wp2_with fail;refine(z2l b i _ [46,46] rfl _ c0).mono ?_;rintro e w1 ⟨rfl,rfl⟩
 cases t8:i == [46,46] with
 | true =>
  have T:=Ld (dm_7 t1 t2 t3 t4 t5 t6 (.inr t8));clear t1 t2 t3 t4 t5 t6 t7 t8;go_wp2_with fail;go_end0;exact⟨rfl,_,by rw[T.out,z6x T.out];exact h.left []⟩
 | false =>
 have T8:=dm_8 t1 t2 t3 t4 t5 t6 t7 t8;clear t1 t2 t3 t4 t5 t6 t7 t8;have hz:(1:Int)≤(st i).size:=by have:=List.length_pos_iff.2 hi;simp only [Z4];omega
 obtain⟨n,n1,n2,n3,n4,n5⟩:=j1q i hi;rw[n3,n4] at T8;have T:=Ld T8;clear T8 n3 n4;have hx:((st i).extract 1 (st i).size).data.toList=i.tail:=by rw[z0p];exact List.drop_one
 rw[← hx] at n5;clear hx;obtain⟨x,hx⟩:∃ x,Lib.indexByte ((st i).extract 1 (st i).size).data.toList 47=x:=⟨_,rfl⟩;rw[hx] at n5;have HX:=Ld hx;clear hx;go_wp2_with fail;refine(j4c _ _).mono ?_;rintro e w1 ⟨rfl,rfl⟩;rw[HX.out];go_upto_if 11 with fail
 go_cut [2] (fun s2 wx=>s2=.int .i64 n∧wx=wk)
 case first =>
  by_cases hx0:x + 1=0
  ·have hb:((x + 1) == 0)=true:=beq_iff_eq.2 hx0
   have hn:n=(st i).size:=by simp only [Z4];omega
   go_wp2_with fail;go_meet
   case rel=>exact⟨by rw[hn],rfl⟩
  ·have hb:((x + 1) == 0)=false:=beq_eq_false_iff_ne.2 hx0
   go_wp2_with fail;go_meet
   case rel =>
    have:x + 1=(n:Int):=by omega
    exact⟨by rw[this],rfl⟩
 case rest =>
  obtain⟨rfl,rfl⟩:=hcut;have nz:(n:Int)≤(st i).size:=by simp only [Z4];omega
  have hown:=h.own;have hsz:b + 1≤wc.heap.size:=h.blk.lt;have ca:(wc.alloc (.cells #[.string ((st i).extract 0 n)] 9)).cell? ⟨b,1,none⟩=some v:=(h.blk.alloc _).cell 1;have fa:(wc.alloc (.cells #[.string ((st i).extract 0 n)] 9)).frozen? ⟨b,1,none⟩=false:=(h.blk.alloc _).frozen 1;go_wp2_with fail;go_upto_region 3 with fail
  go_cut [] (fun wx=>∃ v',DSt b w wx i (o++[i.take n]) v')
  case first =>
   go_region_law (refine z4i rfl (.tmp 21) (.tmp 28) 24 rfl (b + 1) 9 i0 (.string ⟨#[]⟩) 1 16 underlying24 hi0 hz0 hz1 hz2 rfl (by decide) v o.length (sv o) (by simp[Act.eval,Act.put]) (hown.alloc _) ⟨wc.heap.size,0,none⟩ 1 1 [.string ((st i).extract 0 n)] (by simp[Act.eval,Act.put]) rfl (cell_one_new _ _ _) (one_cell _ rfl) (by unfold maxLen;omega) (by omega) (by simp;omega) ?_;intro v' w' hown' hg' hnn;have hgf:=h.grow hg';have c1':w'.cell? ⟨b,1,none⟩=some v:=hgf.1.cell 1;have f1':w'.frozen? ⟨b,1,none⟩=false:=hgf.1.frozen 1;obtain⟨g,cap,hv⟩:=own_form hown' (Nat.succ_pos _);rw[hv] at hown';rw[hv])
   all_goals
    go_wp2_with fail;go_meet
    case rel=>exact⟨_,DSt.grown hgf.1 hgf.2 hown'⟩
  case rest =>
   obtain⟨v2,h2⟩:=hcut
   rename_i we
   have d0:wc.cell? ⟨b,0,none⟩=some (.string (st i)):=h2.blk.cell 0;have g0:wc.frozen? ⟨b,0,none⟩=false:=h2.blk.frozen 0;go_wp2_with fail;go_end0;refine⟨rfl,v2,?_⟩;have hne:i.take n ≠ []:=by
    intro e
    rcases List.take_eq_nil_iff.1 e with h0 | h0
    ·omega
    ·exact hi h0
   have e1:Mg.z8f i o=o++[i.take n]:=by simp[Mg.z8f,T.out,hne]
   rw[T.out,e1,z0p];exact h2.left _

theorem q69 (l:List (List UInt8)):Lib.join l []=l.flatten:=by
 unfold Lib.join
 induction l with
 | nil=>rfl
 | cons a t ih =>
  cases t with
  | nil=>simp[List.intercalate,List.intersperse]
  | cons b t =>
   simp[List.intercalate,List.intersperse] at ih ⊢;exact ih

theorem j2e (base:Nat) (o:List (List UInt8)) (v:Value) (w:World) (hown:w.ownsRow base 9 1 v o.length (sv o)) (hl:o.length≤67108864) (hf:o.flatten.length≤67108864) :
  Calls prog 159 #[v,.string ⟨#[]⟩] w fun e w'=>e=.returned (.string (st o.flatten))∧Below w.heap.size w w':=by
 rcases hown.2 with ⟨rfl,h0⟩ | ⟨g,cap,cur,rfl,_,hh,hnc,hcm,_⟩
 ·have:o=[]:=List.eq_nil_of_length_eq_zero h0
  subst this;exact(Tryz.strings_Join_none none 0 ⟨#[]⟩ w).mono fun e w' ⟨he,hw⟩=>⟨he,by rw[hw];exact Below.refl _ _⟩
 ·have hc:=hown.cells (g:=g) rfl
  have e1:(o.map st).length=o.length:=by simp
  have e2:List.map (fun x:ByteArray=>x.data.toList) (o.map st)=o:=by rw[List.map_map];exact List.map_id _
  have hj:=Tryz.strings_Join g 0 cap (o.map st) ⟨#[]⟩ w (by
   intro j x hj;have hjo:(sv o)[j]? = some (.string x):=by
    simp only [sv,List.getElem?_map,Option.map_eq_some_iff] at hj ⊢;obtain⟨a,ha,rfl⟩:=hj;exact⟨a,ha,rfl⟩
   have:=hc j _ hjo;have ea:(⟨g,0,none⟩:Addr).add j=⟨g,0 + j,none⟩:=by unfold Addr.add;split <;> simp_all
   rw[← ea];exact this) (hown.lt g rfl).2 (by rw[e1];omega) (by rw[e1];exact hnc) (by rw[e2];show (Lib.join o []).length≤_;rw[q69];omega)
  rw[e1,e2] at hj;refine hj.mono fun e w' ⟨he,hw⟩=>⟨?_,hw⟩
  rw[he];show Ending.returned (.string (st (Lib.join o [])))=_;rw[q69]

theorem j5e (i:List UInt8) (o:List (List UInt8)):(Mg.z8f i o).length≤o.length + 1:=by
 unfold Mg.z8f;rw[List.length_append]
 split <;> split <;> simp <;> omega
theorem q92 (s:ByteArray) (w:World) (hs:s.size≤67108864) :
  Calls prog 124 #[.string s] w fun e w'=>e=.returned (.string (st (Mg.dots s.data.toList)))∧Below w.heap.size w w':=by
 have hd0:DSt w.heap.size w (w.alloc (.cells #[.string (st s.data.toList),.slice none 0 0] 231)) s.data.toList [] (.slice none 0 0) :=
  ⟨(Below.refl _ w).alloc (Lr) _,Blk.new w _ _,World.ownsRow_nil _ _ _ _⟩
 go_enter func124,ntmps124;go_wp2_with fail
 go_loopg [] s.size (fun g wx=>∃ i o v,i.length≤g∧o.length + i.length≤s.size∧DSt w.heap.size w wx i o v∧Hid (Mg.q49 i o.flatten=Mg.dots s.data.toList)∧Mg.z6m o∧Hid (o ≠ []→i=[]∨Mg.z1i i))
 case atStart=>exact⟨s.data.toList,[],_,by simp,by simp,hd0,rfl,trivial,fun h=>absurd rfl h⟩
 case round =>
  obtain⟨i,o,v,hig,hil,hd,hr,hok,hsl⟩:=hrel;have c0:wr.cell? ⟨w.heap.size,0,none⟩=some (.string (st i)):=hd.blk.cell 0
  by_cases hi:i=[]
  ·subst hi
   have he:(st []).toList=[]:=Lib.toList_data _;have hfl:o.flatten=Mg.dots s.data.toList:=by rw[← hr.out];rfl
   have hlen:o.flatten.length≤67108864:=by rw[hfl];have:=Mg.q4a s.data.toList;simp at this;omega
   have HF:=Ld hfl;have c1:wr.cell? ⟨w.heap.size,1,none⟩=some v:=hd.blk.cell 1;clear hfl;go_wp2_with fail;refine(j2e _ o v _ hd.own (by omega) hlen).mono ?_;rintro e w2 ⟨rfl,hb2⟩;go_wp2_with fail;go_ret;exact⟨by rw[HF.out];rfl,hd.below.trans (hb2.mono hd.below.size)⟩
  ·have he:(st i).toList.isEmpty=false:=by
    have:(st i).toList=i:=Lib.toList_data _;rw[this]
    cases i with
    | nil=>exact absurd rfl hi
    | cons _ _=>rfl
   obtain⟨p1,p2,p3⟩:=Mg.dpart_ok i o hi hok (fun h=>(hsl.out h).resolve_left hi);have hr2:Hid (Mg.q49 (Mg.z0a i).2.1 (Mg.z8f i o).flatten=Mg.dots s.data.toList):=by
    show _=_;rw[p1,← Mg.q2u i _ hi,hr.out]
   have hless:=Mg.z6w i hi;have hdp:=j5e i o;have P3:=Ld p3;clear p1 p3 hr;have HI:=Ld hi;clear hi;go_wp2_with fail;refine(q5w _ w _ i o v hd HI.out (by omega)).mono ?_;rintro e w2 ⟨rfl,v2,hd2⟩;go_wp2_with fail
   go_roundg (gk - 1)
   case measure=>omega
   case rel=>exact⟨_,_,v2,by omega,by omega,hd2,hr2,p2,P3⟩


def gath (l:List UInt8):List UInt8:=Mg.fold (l.filter (fun c=>decide (32 < c)))
theorem gath_yes (l:List UInt8) (c:UInt8) (h:32 < (c.toNat:Int)):gath (l++[c])=gath l++[Mg.low c]:=by
 have:decide (32 < c)=true:=by rw[decide_eq_true_eq,UInt8.lt_iff_toNat_lt];show 32 < c.toNat;omega
 simp[gath,List.filter_append,this,Mg.fold]
theorem gath_no (l:List UInt8) (c:UInt8) (h:¬ 32 < (c.toNat:Int)):gath (l++[c])=gath l:=by
 have:decide (32 < c)=false:=by rw[decide_eq_false_iff_not,UInt8.lt_iff_toNat_lt];show ¬ 32 < c.toNat;omega
 simp[gath,List.filter_append,this,Mg.fold]
theorem q9l (l:List UInt8):(gath l).length≤l.length:=by
 unfold gath Mg.fold;rw[List.length_map];exact List.length_filter_le _ _

theorem schOf_le (t:List UInt8):Mg.z1u t≤t.length:=by
 by_cases h:Mg.z1u t=0
 ·omega
 ·have:=(List.getElem?_eq_some_iff.1 (Mg.j04 t h)).1
  omega
theorem j0g (s:ByteArray) (w:World) (hs:s.size≤67108864) :
  Calls prog 62 #[.string s] w fun e w'=>e=.returned (.bool (Mg.isSafe s.data.toList))∧Below w.heap.size w w':=by
 obtain⟨i0,hi,hz0,hz1,hz2⟩:=info_parts Tryz.infoB;have hcv:=Lib.run_convert_string_bytes (P:=prog) w 9 94 5 s (u:=.string) underlying9 underlying94 underlying5;have hcl:=fun j hj=>Lib.bytesWorld_cell w 5 s j hj
 have hbw:Below w.heap.size w (Lib.bytesWorld w 5 s):=⟨rfl,rfl,rfl,by rw[Lib.bytesWorld_size];omega,fun k hk=>Lib.bytesWorld_at_old w _ s k hk⟩;have hsz:=Lib.bytesWorld_size w 5 s;generalize Lib.bytesWorld w 5 s=wv at hcv hcl hbw hsz;have HCL:=Ld hcl;have HSZ:=Ld hsz;clear hcl hsz;go_enter func62,ntmps62;go_wp2_with fail;clear hcv
 go_loopw [3,5,11] (fun v _ i wr=>∃ k:Nat,k≤s.size∧i=.int .i64 k∧wr.ownsRow (w.heap.size + 1) 5 1 v (gath (s.data.toList.take k)).length (bv (gath (s.data.toList.take k)))∧Below (w.heap.size + 1) wv wr) (fun _ _ i _=>s.size - (intOf i).toNat)
 case atStart=>exact⟨0,Nat.zero_le _,rfl,World.ownsRow_nil _ _ _ _,Below.refl _ _⟩
 case round =>
  obtain⟨k,hk,rfl,hown,hbl⟩:=hrel
  by_cases hlt:k < s.size
  ·have hb:(s[k].toNat:Int)≤255:=by have:=s[k].toNat_lt;omega
   have hck:wr.cell? ⟨w.heap.size,k,none⟩=some (.int .u8 (s[k].toNat:Int)):=by
    rw[hbl.cell (p:=⟨w.heap.size,k,none⟩) (by show w.heap.size < w.heap.size + 1;omega),HCL.out k hlt];have:s.data.toList.getD k 0=s[k]:=by rw[List.getD_eq_getElem?_getD,Lib.data_getElem? s k hlt];rfl
    rw[this]
   have hszr:w.heap.size + 1≤wr.heap.size:=by have:=hbl.size;have:=HSZ.out;omega
   have hgl:=q9l (s.data.toList.take k);have hgl2:(gath (s.data.toList.take k)).length≤k:=by rw[List.length_take] at hgl;omega
   clear hgl
   by_cases h32:32 < (s[k].toNat:Int)
   ·have HF:=Ld (gath_yes (s.data.toList.take k) s[k] h32)
    have HT:=Ld (z7v s k hlt);go_wp2_with (first | (go_at_call 111;refine(q1q _ _).mono ?_;rintro e w' ⟨rfl,rfl⟩) | (at_builtin;refine wpList_append_own _ rfl _ _ 94 rfl (w.heap.size + 1) 5 i0 (.int .u8 0) 1 1 underlying94 hi hz0 hz1 hz2 rfl (by decide) _ _ _ rfl (hown.alloc _) ⟨wr.heap.size,0,none⟩ 1 1 [.int .u8 ((Mg.low s[k]).toNat:Int)] rfl rfl (cell_one_new _ _ _) (one_cell _ rfl) (by unfold maxLen;omega) (by omega) (by simp;omega) ?_));intro v' w1 hown' hgrow _;have hbl1:=below_grown (hbl.alloc hszr _) (hown.alloc _) hgrow (by simp;omega);rw[← bv_snoc,← HF.out,← HT.out] at hown';have hln:(gath (s.data.toList.take k)).length + 1=(gath (s.data.toList.take (k + 1))).length:=by rw[HT.out,HF.out,List.length_append];rfl
    rw[hln] at hown';clear hown hgrow hbl hln;go_wp2;go_roundw
    case rel=>exact⟨k + 1,by omega,by go_num,hown',hbl1⟩
    case measure=>simp[intOf];omega
   ·have HF:=Ld (gath_no (s.data.toList.take k) s[k] h32)
    have HT:=Ld (z7v s k hlt);go_wp2;rw[← HF.out,← HT.out] at hown;go_roundw
    case rel=>exact⟨k + 1,by omega,by go_num,hown,hbl⟩
    case measure=>simp[intOf];omega
  ·rw[List.take_of_length_le (by simp;omega)] at hown
   have hc:=z3v (P:=prog) wr 94 9 5 underlying94 underlying5 underlying9 _ hown;have hfin:=Mg.q84 s.data.toList;have hgl:=q9l s.data.toList;have HF:=Ld hfin;clear hfin;have hbf:Below w.heap.size w wr:=hbw.trans (hbl.mono (by omega));obtain⟨t,ht⟩:∃ t,gath s.data.toList=t:=⟨_,rfl⟩;have hfin:Mg.isSafe s.data.toList=Mg.q57 (t.take (Mg.z1u t)):=by rw[HF.out,← ht];rfl
   rw[ht] at hc hgl hown;have HFF:=Ld hfin;clear hfin HF ht hown hbl hbw;have hnl:=schOf_le t;have hsl:t.length≤67108864:=by simp at hgl;omega
   go_wp2_with fail;change Calls _ _ #[.string (st t)] _ _;refine(z5c (st t) _ (by simp only [Z4];omega)).mono ?_;rintro e w2 ⟨rfl,hb2⟩;obtain⟨n,hn⟩:∃ n,Mg.z1u (st t).data.toList=n:=⟨_,rfl⟩;rw[hn];have hnt:(n:Int)≤(st t).size:=by have hx:n=Mg.z1u t:=hn.symm;simp only [Z4];omega
   have hnt2:n≤t.length:=by have hx:n=Mg.z1u t:=hn.symm;omega
   have hxl:(ByteArray.extract ⟨t.toArray⟩ 0 n).toList=t.take n:=by rw[z97];simp
   have HXL:=Ld hxl;clear hxl;have hn2:Mg.z1u t=n:=hn;have HN:=Ld hn2;clear hn hn2 hc;go_wp2_with fail
   ·have e1:(ByteArray.extract ⟨t.toArray⟩ 0 n).toList=[104,116,116,112]:=by assumption
    go_ret;refine⟨Z8 ?_,hbf.trans (hb2.mono hbf.size)⟩;rw[HXL.out] at e1;rw[HFF.out,HN.out,e1];rfl
   ·have e1:(ByteArray.extract ⟨t.toArray⟩ 0 n).toList=[104,116,116,112,115]:=by assumption
    go_ret;refine⟨Z8 ?_,hbf.trans (hb2.mono hbf.size)⟩;rw[HXL.out] at e1;rw[HFF.out,HN.out,e1];rfl
   ·go_ret
    refine⟨Z8 ?_,hbf.trans (hb2.mono hbf.size)⟩;rw[HXL.out,HFF.out,HN.out];rfl


theorem q9s (a b:List UInt8) (hb:(47:UInt8) ∉ b) (ha:a=[]∨∃ t,a=t++[47]):((a++b).reverse.dropWhile (· != 47)).reverse=a:=by
 rw[List.reverse_append,Mg.z9p _ _ (by simpa using hb)]
 rcases ha with rfl | ⟨t,rfl⟩
 ·rfl
 ·simp
theorem last_cases (s:ByteArray):∃ m,m≤s.size∧(s.data.toList.reverse.dropWhile (· != 47)).reverse=s.data.toList.take m∧Lib.lastIndexByte s 47=(m:Int) - 1:=by
 have hget:∀ j (hj:j < s.size),s.data[j]! = s.data.toList[j]'(by simpa using hj):=fun j hj=>by
  have h1:j < s.data.size:=hj;rw[getElem!_pos s.data j h1];simp
 have hlen:s.data.toList.length=s.size:=by simp
 rcases Lib.lastIdx_spec s 47 s.size with ⟨h1,h2⟩ | ⟨i,hi,h1,h2,h3⟩
 ·refine⟨0,Nat.zero_le _,?_,by unfold Lib.lastIndexByte;omega⟩
  have h:=q9s [] s.data.toList (by
   intro hm;obtain⟨j,hj,he⟩:=List.getElem_of_mem hm;have hjs:j < s.size:=by omega
   have:=h2 j hjs;rw[hget j hjs,he] at this;exact this rfl) (.inl rfl)
  simpa using h
 ·refine⟨i + 1,by omega,?_,by unfold Lib.lastIndexByte;omega⟩
  have hil:i < s.data.toList.length:=by omega
  have e47:s.data.toList[i]=47:=by
   rw[hget i hi] at h2;exact UInt8.toNat_inj.1 (by rw[show (47:UInt8).toNat=47 from rfl];omega)
  have h:=q9s (s.data.toList.take (i + 1)) (s.data.toList.drop (i + 1)) (by
   intro hm;obtain⟨j,hj,he⟩:=List.getElem_of_mem hm;rw[List.length_drop] at hj;rw[List.getElem_drop] at he;have hjs:i + 1 + j < s.size:=by omega
   have:=h3 (i + 1 + j) (by omega) hjs;rw[hget _ hjs,he] at this;exact this rfl) (.inr ⟨s.data.toList.take i,by rw[List.take_succ_eq_append_getElem hil,e47]⟩)
  rwa [List.take_append_drop] at h

theorem j3q (b u:Mg.U) (w:World) (hb:b.pa.length≤67108864) (hu:u.pa.length≤67108864) :
  Calls prog 184 #[uVal b,uVal u] w fun e w'=>e=.returned (.string (st (Mg.z7p b u)))∧Below w.heap.size w w':=by
 have hw2:Below w.heap.size w ((w.alloc (.cells (z0i b) 125)).alloc (.cells (z0i u) 125)):=((Below.refl _ w).alloc (Lr) _).alloc (by simp) _;have b1:=Blk.new (w.alloc (.cells (z0i b) 125)) 125 (z0i u);have e1:(w.alloc (.cells (z0i b) 125)).heap.size=w.heap.size + 1:=by simp
 rw[e1] at b1;have b0:=(Blk.new w 125 (z0i b)).alloc (.cells (z0i u) 125);clear e1;unfold uVal;go_enter func184,ntmps184;go_upto_region 1 with fail;change Code.wp _ _ _ _ ((w.alloc (.cells (z0i b) 125)).alloc (.cells (z0i u) 125));generalize (w.alloc (.cells (z0i b) 125)).alloc (.cells (z0i u) 125)=w2 at hw2 b0 b1 ⊢;have c1:w2.cell? ⟨w.heap.size,6,none⟩=some (.bool b.ha):=b0.cell 6;have c2:w2.cell? ⟨w.heap.size,2,none⟩=some (.string (st b.pa)):=b0.cell 2;have c3:w2.cell? ⟨w.heap.size + 1,2,none⟩=some (.string (st u.pa)):=b1.cell 2;clear b0 b1;have z1:(st b.pa).size≤67108864:=hb;have z2:(st u.pa).size≤67108864:=hu
 by_cases hc:b.ha=true∧b.pa=[]
 ·obtain⟨h1,h2⟩:=hc
  rw[h1] at c1;rw[h2] at c2;have he:(st []).toList=[]:=Lib.toList_data _;have HM:Hid (Mg.z7p b u=47 :: u.pa):=by show _=_;simp[Mg.z7p,h1,h2]
  clear h1 h2;go_wp2_with fail;go_ret;refine⟨?_,hw2⟩;rw[HM.out];exact z9e (z3m _ _)
 ·have HNF:Hid ((b.ha && b.pa.isEmpty)=false):=by
   show _=_
   cases hx:b.ha with
   | false=>rfl
   | true =>
    cases hy:b.pa with
    | nil=>exact absurd ⟨hx,hy⟩ hc
    | cons _ _=>rfl
  obtain⟨m,m1,m2,m3⟩:=last_cases (st b.pa);have HM:Hid (Mg.z7p b u=b.pa.take m++u.pa):=by
   show _=_;have hf:(b.ha && b.pa.isEmpty)=false:=HNF.out;rw[Mg.z7p,if_neg (by rw[hf];exact Bool.false_ne_true)];exact congrArg (·++u.pa) m2
  have M3:=Ld m3;clear m2 m3;have m4:(m:Int)≤(st b.pa).size:=by omega
  have lc:=fun W=>(Tryz.strings_LastIndexByte (st b.pa) 47 (by omega) W)
  rw[M3.out] at lc;have LC:=Ld lc;clear lc;have k1:(0:Int)≤(m:Int) - 1 + 1:=by omega
  have k2:IntKind.i64.wrap ((m:Int) - 1 + 1)=(m:Int):=by rw[IntWalk.i64_in _ (by omega)];omega
  have k3:((st b.pa).extract 0 m).size≤67108864:=by rw[z3r];simp[Z4];omega
  by_cases hha:b.ha=true
  ·rw[hha] at c1
   have he:(st b.pa).toList.isEmpty=false:=by
    have e1:(st b.pa).toList=b.pa:=Lib.toList_data _;rw[e1];have:=HNF.out;rw[hha] at this
    simpa using this
   clear hha hc;go_upto_region 3 with fail
   go_quiet ((go_at_call 231;exact Calls.quiet_of_same (LC.out _)))
   go_wp2_with fail;go_ret;refine⟨?_,below_drewN hw2 _⟩;rw[HM.out];refine z9e ?_;rw[z3r,z3m];rfl
  ·have hha':b.ha=false:=by simpa using hha
   rw[hha'] at c1;clear hha hha' hc;go_upto_region 3 with fail
   go_quiet ((go_at_call 231;exact Calls.quiet_of_same (LC.out _)))
   go_wp2_with fail;go_ret;refine⟨?_,below_drewN hw2 _⟩;rw[HM.out];refine z9e ?_;rw[z3r,z3m];rfl

def z3z (b u:Mg.U):List UInt8:=if u.hs || u.ha then u.pa else if u.pa=[] then b.pa else if Mg.isAt 47 u.pa then u.pa else Mg.z7p b u
def rU1 (b u:Mg.U):Mg.U:=if u.hs || u.ha then u else if u.pa=[] then (if u.hq then u else { u with qu:=b.qu,hq:=b.hq }) else u
def rU2 (b u:Mg.U):Mg.U:=if u.hs then rU1 b u else if u.ha then { rU1 b u with sch:=b.sch,hs:=true } else { rU1 b u with sch:=b.sch,hs:=true,au:=b.au,ha:=b.ha }
theorem rU_res (b u:Mg.U) : { rU2 b u with pa:=Mg.dots (z3z b u) } = Mg.resU b u:=by
 obtain⟨s,a,p,q,f,hs,ha,hq,hf⟩:=u;unfold Mg.resU rU2 rU1 z3z
 cases hs <;> cases ha <;> cases hq <;> by_cases hp:p=[] <;> simp[hp]
theorem z7e (s:List UInt8):(Mg.split s).sch.length≤s.length∧(Mg.split s).au.length≤s.length∧(Mg.split s).pa.length≤s.length∧(Mg.split s).qu.length≤s.length∧(Mg.split s).fr.length≤s.length:=by
 have a1:(Mg.z0z s).length≤s.length:=by unfold Mg.z0z;split <;> simp
 have a2:∀ r,(Mg.z3l r).length≤r.length:=fun r=>by
  unfold Mg.z3l;split
  ·refine Nat.le_trans (z7c _ _) ?_;simp
  ·omega
 have a3:∀ r,(Mg.z2h r).length≤r.length:=fun r=>by
  unfold Mg.z2h;split
  ·refine Nat.le_trans (z7c _ _) ?_;simp
  ·omega
 have up:∀ p r,(Mg.upto p r).length≤r.length:=fun p r=>(List.takeWhile_prefix _).length_le
 have b2:=a2 (Mg.z0z s);have b3:=z7c Mg.z4a (Mg.z3l (Mg.z0z s));have b4:=a3 (Mg.past Mg.z4a (Mg.z3l (Mg.z0z s)));refine⟨?_,?_,?_,?_,?_⟩
 ·show (if _ then _ else _:List UInt8).length≤_
  split <;> simp;omega
 ·show (if _ then _ else _:List UInt8).length≤_
  split
  ·have:=up Mg.q5b ((Mg.z0z s).drop 2);rw[List.length_drop] at this;omega
  ·simp
 ·have:=up Mg.z4a (Mg.z3l (Mg.z0z s));show (Mg.upto _ _).length≤_;omega
 ·show (if _ then _ else _:List UInt8).length≤_
  split
  ·have:=up Mg.q1j (Mg.past Mg.z4a (Mg.z3l (Mg.z0z s))).tail;rw[List.length_tail] at this;omega
  ·simp
 ·show (List.tail _).length≤_
  rw[List.length_tail];omega
theorem merge_le (b u:Mg.U):(Mg.z7p b u).length≤b.pa.length + u.pa.length + 1:=by
 unfold Mg.z7p
 split
 ·simp
 ·have:=(List.dropWhile_suffix (l:=b.pa.reverse) (fun c:UInt8=>c != 47)).length_le
  simp at this ⊢;omega
theorem q9z (b u:Mg.U):(z3z b u).length≤b.pa.length + u.pa.length + 1:=by
 have:=merge_le b u;unfold z3z
 split
 ·omega
 split
 ·omega
 split <;> omega

theorem rU2_le (b u:Mg.U):(rU2 b u).sch.length≤b.sch.length + u.sch.length∧(rU2 b u).au.length≤b.au.length + u.au.length∧(rU2 b u).qu.length≤b.qu.length + u.qu.length∧(rU2 b u).fr.length≤u.fr.length:=by
 obtain⟨s,a,p,q,f,hs,ha,hq,hf⟩:=u;unfold rU2 rU1
 cases hs <;> cases ha <;> cases hq <;> by_cases hp:p=[] <;> simp[hp] <;> omega
structure RSt (w wk:World) (B:Nat) (b u:Mg.U):Prop where
 le:w.heap.size≤B
 below:Below w.heap.size w wk
 bb:Blk wk B 125 (z0i b)
 uu:Blk wk (B + 1) 125 (z0i u)
theorem RSt.grow {w wk w1:World} {B:Nat} {b u:Mg.U} (h:RSt w wk B b u) (hb:Below wk.heap.size wk w1):RSt w w1 B b u :=
 ⟨h.le,h.below.trans (hb.mono h.below.size),h.bb.below hb h.bb.lt,h.uu.below hb h.uu.lt⟩
theorem RSt.drew {w wk:World} {B:Nat} {b u:Mg.U} (h:RSt w wk B b u) (n:Nat):RSt w (wk.drewN n) B b u :=
 ⟨h.le,below_drewN h.below n,h.bb.drewN n,h.uu.drewN n⟩
theorem RSt.drew1 {w wk:World} {B:Nat} {b u:Mg.U} (h:RSt w wk B b u):RSt w wk.drew B b u:=⟨h.le,h.below.drew,h.bb.drew,h.uu.drew⟩
theorem RSt.put {w wk:World} {B:Nat} {b u:Mg.U} (h:RSt w wk B b u) (i:Nat) (v:Value) (u':Mg.U) (hu:(z0i u).setIfInBounds i v=z0i u'):RSt w (wk.setCell ⟨B + 1,i,none⟩ v) B b u' :=
 ⟨h.le,h.below.setCell (by have:=h.le;show _≤B + 1;omega) _,h.bb.far (by show B ≠ B + 1;omega) _,by rw[← hu];exact h.uu.set_ i v⟩
theorem RSt.start {w w2:World} (b u:Mg.U) (hb:Below w.heap.size w w2):RSt w ((w2.alloc (.cells (z0i b) 125)).alloc (.cells (z0i u) 125)) w2.heap.size b u:=by
 have e1:(w2.alloc (.cells (z0i b) 125)).heap.size=w2.heap.size + 1:=by simp
 have b1:=Blk.new (w2.alloc (.cells (z0i b) 125)) 125 (z0i u);rw[e1] at b1;have:=hb.size;exact⟨hb.size,(hb.alloc hb.size _).alloc (by omega) _,(Blk.new w2 _ _).alloc _,b1⟩

theorem z9v (base s:ByteArray) (w:World) (hb:base.size≤3000) (hs:s.size≤3000) :
  Calls prog 125 #[.string base,.string s] w fun e w'=>e=.returned (.tuple #[.string (st (Mg.join (Mg.resU (Mg.split base.data.toList) (Mg.split s.data.toList)))),.bool (Mg.q36 (Mg.resU (Mg.split base.data.toList) (Mg.split s.data.toList)))])∧Below w.heap.size w w':=by
 go_enter func125,ntmps125;go_wp2_with fail;refine(q1p base _ (by omega)).mono ?_;rintro e w1 ⟨rfl,hb1⟩;obtain⟨b,hbe⟩:∃ b,b=Mg.split base.data.toList:=⟨_,rfl⟩;rw[← hbe];have BE:=Ld hbe;clear hbe;go_wp2_with fail;refine(q1p s _ (by omega)).mono ?_;rintro e w2 ⟨rfl,hb2⟩;obtain⟨u,hue⟩:∃ u,u=Mg.split s.data.toList:=⟨_,rfl⟩;rw[← hue];have UE:=Ld hue;have hbw:=hb1.trans (hb2.mono hb1.size);have r0:=RSt.start b u hbw;clear hb1 hb2 hue hbw;unfold uVal;go_upto_region 2 with fail;change Code.wp _ _ _ _ ((w2.alloc (.cells (z0i b) 125)).alloc (.cells (z0i u) 125));generalize (w2.alloc (.cells (z0i b) 125)).alloc (.cells (z0i u) 125)=w3 at r0 ⊢;generalize w2.heap.size=B at r0 ⊢;have c2:w3.cell? ⟨B + 1,2,none⟩=some (.string (st u.pa)):=r0.uu.cell 2;have c5:w3.cell? ⟨B + 1,5,none⟩=some (.bool u.hs):=r0.uu.cell 5;have c6:w3.cell? ⟨B + 1,6,none⟩=some (.bool u.ha):=r0.uu.cell 6
 go_upto_block 0 with fail
 go_cut [8] (fun s8 wx=>s8=.string (st (z3z b u))∧RSt w wx B b (rU1 b u))
 case first =>
  by_cases hsa:u.hs=true∨u.ha=true
  ·have P:Hid (z3z b u=u.pa∧rU1 b u=u):=by
    have h:(u.hs || u.ha)=true:=by simpa using hsa
    exact⟨by simp[z3z,h],by simp[rU1,h]⟩
   by_cases h1:u.hs=true
   ·rw[h1] at c5
    clear h1 hsa;go_wp2_with fail;go_meet
    case rel=>rw[P.out.1,P.out.2];exact⟨rfl,r0⟩
   ·have h2:u.ha=true:=hsa.resolve_left h1
    have h3:u.hs=false:=by simpa using h1
    rw[h3] at c5;rw[h2] at c6;clear h1 h2 h3 hsa;go_wp2_with fail;go_meet
    case rel=>rw[P.out.1,P.out.2];exact⟨rfl,r0⟩
  ·have h3:u.hs=false:=by cases h:u.hs with | false=>rfl | true=>exact absurd (.inl h) hsa
   have h4:u.ha=false:=by cases h:u.ha with | false=>rfl | true=>exact absurd (.inr h) hsa
   have H:Hid ((u.hs || u.ha)=false):=by show _=_;rw[h3,h4];rfl
   rw[h3] at c5;rw[h4] at c6;clear h3 h4 hsa
   by_cases hp:u.pa=[]
   ·have hpe:(st u.pa).toList=[]:=by rw[hp];exact Lib.toList_data _
    have cb:w3.cell? ⟨B,2,none⟩=some (.string (st b.pa)):=r0.bb.cell 2;have c7:w3.cell? ⟨B + 1,7,none⟩=some (.bool u.hq):=r0.uu.cell 7
    cases hq:u.hq with
    | true =>
     rw[hq] at c7;have P:Hid (z3z b u=b.pa∧rU1 b u=u):=⟨by simp[z3z,H.out,hp],by simp[rU1,H.out,hp,hq]⟩;clear hq hp;go_wp2_with fail;go_meet
     case rel=>rw[P.out.1,P.out.2];exact⟨rfl,r0⟩
    | false =>
     rw[hq] at c7;have P:Hid (z3z b u=b.pa∧rU1 b u = { u with qu:=b.qu,hq:=b.hq }):=⟨by simp[z3z,H.out,hp],by simp[rU1,H.out,hp,hq]⟩;have d3:w3.cell? ⟨B,3,none⟩=some (.string (st b.qu)):=r0.bb.cell 3;have d7:w3.cell? ⟨B,7,none⟩=some (.bool b.hq):=r0.bb.cell 7;have c3:w3.cell? ⟨B + 1,3,none⟩=some (.string (st u.qu)):=r0.uu.cell 3;have f3:w3.frozen? ⟨B + 1,3,none⟩=false:=r0.uu.frozen 3;have f7:w3.frozen? ⟨B + 1,7,none⟩=false:=r0.uu.frozen 7;clear hq hp;go_wp2_with fail
     go_region
     all_goals
      go_wp2_with fail;go_meet
      case rel =>
       rw[P.out.1,P.out.2];exact⟨rfl,((r0.put 3 (.string (st b.qu)) { u with qu:=b.qu } rfl).put 7 (.bool b.hq) { u with qu:=b.qu,hq:=b.hq } rfl).drew1⟩
   ·have hpe:(st u.pa).toList.isEmpty=false:=by
     have e1:(st u.pa).toList=u.pa:=Lib.toList_data _;rw[e1]
     cases hx:u.pa with
     | nil=>exact absurd hx hp
     | cons _ _=>rfl
    have hpos:0 < (st u.pa).size:=List.length_pos_iff.2 hp;obtain⟨c,t,hct⟩:=List.exists_cons_of_ne_nil hp;have hc0:(st u.pa)[0]'hpos=c:=by
     have h:(st u.pa).data.toList[0]? = some ((st u.pa)[0]'hpos):=Lib.data_getElem? (st u.pa) 0 hpos;have h2:(st u.pa).data.toList[0]? = some c:=by rw[z1o,hct];rfl
     rw[h2] at h;injection h with h;exact h.symm
    by_cases h47:c=47
    ·have hne:((((st u.pa)[0]'hpos).toNat:Int) != 47)=false:=by rw[hc0,h47];decide
     have P:Hid (z3z b u=u.pa∧rU1 b u=u):=⟨by simp[z3z,H.out,hct,Mg.isAt,h47],by simp[rU1,H.out,hp]⟩;clear hc0 hct hp;go_wp2_with fail;go_meet
     case rel=>rw[P.out.1,P.out.2];exact⟨rfl,r0⟩
    ·have hne:((((st u.pa)[0]'hpos).toNat:Int) != 47)=true:=by
      rw[hc0,bne_iff_ne];intro e;exact h47 (UInt8.toNat_inj.1 (by rw[show (47:UInt8).toNat=47 from rfl];omega))
     have P:Hid (z3z b u=Mg.z7p b u∧rU1 b u=u):=⟨by simp[z3z,H.out,hct,Mg.isAt,h47],by simp[rU1,H.out,hp]⟩;clear hc0 hct hp;have m0:w3.cell? ⟨B,0,none⟩=some (.string (st b.sch)):=r0.bb.cell 0;have n0:w3.cell? ⟨B + 1,0,none⟩=some (.string (st u.sch)):=r0.uu.cell 0;have m1:w3.cell? ⟨B,1,none⟩=some (.string (st b.au)):=r0.bb.cell 1;have n1:w3.cell? ⟨B + 1,1,none⟩=some (.string (st u.au)):=r0.uu.cell 1;have m2:w3.cell? ⟨B,2,none⟩=some (.string (st b.pa)):=r0.bb.cell 2;have n2:w3.cell? ⟨B + 1,2,none⟩=some (.string (st u.pa)):=r0.uu.cell 2;have m3:w3.cell? ⟨B,3,none⟩=some (.string (st b.qu)):=r0.bb.cell 3;have n3:w3.cell? ⟨B + 1,3,none⟩=some (.string (st u.qu)):=r0.uu.cell 3;have m4:w3.cell? ⟨B,4,none⟩=some (.string (st b.fr)):=r0.bb.cell 4;have n4:w3.cell? ⟨B + 1,4,none⟩=some (.string (st u.fr)):=r0.uu.cell 4;have m5:w3.cell? ⟨B,5,none⟩=some (.bool b.hs):=r0.bb.cell 5;have n5:w3.cell? ⟨B + 1,5,none⟩=some (.bool u.hs):=r0.uu.cell 5;have m6:w3.cell? ⟨B,6,none⟩=some (.bool b.ha):=r0.bb.cell 6;have n6:w3.cell? ⟨B + 1,6,none⟩=some (.bool u.ha):=r0.uu.cell 6;have m7:w3.cell? ⟨B,7,none⟩=some (.bool b.hq):=r0.bb.cell 7;have n7:w3.cell? ⟨B + 1,7,none⟩=some (.bool u.hq):=r0.uu.cell 7;have m8:w3.cell? ⟨B,8,none⟩=some (.bool b.hf):=r0.bb.cell 8;have n8:w3.cell? ⟨B + 1,8,none⟩=some (.bool u.hf):=r0.uu.cell 8;go_wp2_with fail;refine(j3q b { u with hs:=false,ha:=false } _ (by have:=z7e base.data.toList;rw[BE.out];simp at this ⊢;omega) (by have:=z7e s.data.toList;rw[UE.out];simp at this ⊢;omega)).mono ?_;rintro e w4 ⟨rfl,hb4⟩;have r1:=r0.grow hb4;clear hb4;go_wp2_with fail;go_meet
     case rel=>rw[P.out.1,P.out.2];exact⟨rfl,r1⟩
 case rest =>
  obtain⟨rfl,r1⟩:=hcut;clear c2 c5 c6 r0;obtain⟨u1,hu1⟩:∃ u1,u1=rU1 b u:=⟨_,rfl⟩;have hks:u1.hs=u.hs∧u1.ha=u.ha:=by rw[hu1];unfold rU1;split;exact⟨rfl,rfl⟩;split;split;exact⟨rfl,rfl⟩;exact⟨rfl,rfl⟩;exact⟨rfl,rfl⟩
  rw[← hu1] at r1;have H1:=Ld hu1;have HK:=Ld hks;clear hu1 hks;have c5:wc.cell? ⟨B + 1,5,none⟩=some (.bool u1.hs):=r1.uu.cell 5;go_upto_if 45 with fail
  go_cut [] (fun wx=>RSt w wx B b (rU2 b u))
  case first =>
   cases h:u1.hs with
   | true =>
    rw[h] at c5;have P:Hid (rU2 b u=u1):=by show _=_;rw[rU2,if_pos (by rw[← HK.out.1];exact h),H1.out]
    clear h;go_wp2_with fail;go_meet
    case rel=>rw[P.out];exact r1
   | false =>
    rw[h] at c5;have hns:¬ u.hs=true:=by rw[← HK.out.1,h];exact Bool.false_ne_true
    have d0:wc.cell? ⟨B,0,none⟩=some (.string (st b.sch)):=r1.bb.cell 0;have c0:wc.cell? ⟨B + 1,0,none⟩=some (.string (st u1.sch)):=r1.uu.cell 0;have c6:wc.cell? ⟨B + 1,6,none⟩=some (.bool u1.ha):=r1.uu.cell 6;have f0:wc.frozen? ⟨B + 1,0,none⟩=false:=r1.uu.frozen 0;have f5:wc.frozen? ⟨B + 1,5,none⟩=false:=r1.uu.frozen 5;have r2:=(r1.put 0 (.string (st b.sch)) { u1 with sch:=b.sch } rfl).put 5 (.bool true) { u1 with sch:=b.sch,hs:=true } rfl
    cases h6:u1.ha with
    | true =>
     rw[h6] at c6;have P:Hid (rU2 b u = { u1 with sch:=b.sch,hs:=true }):=by show _=_;rw[rU2,if_neg hns,if_pos (by rw[← HK.out.2];exact h6),H1.out]
     clear h h6 hns;go_wp2_with fail;go_meet
     case rel=>rw[P.out];exact r2
    | false =>
     rw[h6] at c6;have P:Hid (rU2 b u = { u1 with sch:=b.sch,hs:=true,au:=b.au,ha:=b.ha }):=by show _=_;rw[rU2,if_neg hns,if_neg (by rw[← HK.out.2,h6];exact Bool.false_ne_true),H1.out]
     have d1:wc.cell? ⟨B,1,none⟩=some (.string (st b.au)):=r1.bb.cell 1;have d6:wc.cell? ⟨B,6,none⟩=some (.bool b.ha):=r1.bb.cell 6;have c1:wc.cell? ⟨B + 1,1,none⟩=some (.string (st u1.au)):=r1.uu.cell 1;have f1:wc.frozen? ⟨B + 1,1,none⟩=false:=r1.uu.frozen 1;have f6:wc.frozen? ⟨B + 1,6,none⟩=false:=r1.uu.frozen 6;clear h h6 hns;go_wp2_with fail
     go_region
     all_goals
      go_wp2_with fail;go_meet
      case rel =>
       rw[P.out];exact((r2.put 1 (.string (st b.au)) { u1 with sch:=b.sch,hs:=true,au:=b.au } rfl).put 6 (.bool b.ha) { u1 with sch:=b.sch,hs:=true,au:=b.au,ha:=b.ha } rfl).drew1
  case rest =>
   obtain⟨u2,hu2⟩:∃ u2,u2=rU2 b u:=⟨_,rfl⟩;rw[← hu2] at hcut;have H2:=Ld hu2;clear hu2 c5 r1;have lb:=z7e base.data.toList;have ls:=z7e s.data.toList;have lp:=q9z b u;rw[← BE.out] at lb;rw[← UE.out] at ls;simp only [bs_len] at lb ls;go_wp2_with fail;refine(q92 _ _ (by show (z3z b u).length≤_;omega)).mono ?_;rintro e w4 ⟨rfl,hb4⟩;have r3:=hcut.grow hb4;change RSt w w4 B b u2 at r3;have c2:w4.cell? ⟨B + 1,2,none⟩=some (.string (st u2.pa)):=r3.uu.cell 2;have f2:w4.frozen? ⟨B + 1,2,none⟩=false:=r3.uu.frozen 2;obtain⟨u3,hu3⟩:∃ u3,u3=({ u2 with pa:=Mg.dots (z3z b u) }:Mg.U):=⟨_,rfl⟩;have r4:RSt w (w4.setCell ⟨B + 1,2,none⟩ (.string (st (Mg.dots (z3z b u))))) B b u3:=by rw[hu3];exact r3.put 2 _ _ rfl
   have hres:u3=Mg.resU b u:=by rw[hu3,H2.out];exact rU_res b u
   have lu:u3.sch.length + u3.au.length + u3.pa.length + u3.qu.length + u3.fr.length≤1048576:=by
    have h1:=rU2_le b u;have h2:=Mg.q4a (z3z b u);rw[hu3,H2.out];simp only;omega
   have HR:=Ld hres;clear hu3 hres;go_upto_region 15 with fail;change Code.wp _ _ _ _ (w4.setCell ⟨B + 1,2,none⟩ (.string (st (Mg.dots (z3z b u)))));generalize w4.setCell ⟨B + 1,2,none⟩ (.string (st (Mg.dots (z3z b u))))=w5 at r4 ⊢;clear c2 f2 r3;have n0:w5.cell? ⟨B + 1,0,none⟩=some (.string (st u3.sch)):=r4.uu.cell 0;have n1:w5.cell? ⟨B + 1,1,none⟩=some (.string (st u3.au)):=r4.uu.cell 1;have n2:w5.cell? ⟨B + 1,2,none⟩=some (.string (st u3.pa)):=r4.uu.cell 2;have n3:w5.cell? ⟨B + 1,3,none⟩=some (.string (st u3.qu)):=r4.uu.cell 3;have n4:w5.cell? ⟨B + 1,4,none⟩=some (.string (st u3.fr)):=r4.uu.cell 4;have n5:w5.cell? ⟨B + 1,5,none⟩=some (.bool u3.hs):=r4.uu.cell 5;have n6:w5.cell? ⟨B + 1,6,none⟩=some (.bool u3.ha):=r4.uu.cell 6;have n7:w5.cell? ⟨B + 1,7,none⟩=some (.bool u3.hq):=r4.uu.cell 7;have n8:w5.cell? ⟨B + 1,8,none⟩=some (.bool u3.hf):=r4.uu.cell 8;go_wp2_with fail;refine(j3p u3 _ lu).mono ?_;rintro e w6 ⟨rfl,hb6⟩;go_wp2_with fail;go_ret2;exact⟨by rw[← BE.out,← UE.out,← HR.out];rfl,r4.below.trans (hb6.mono r4.below.size)⟩

theorem q06 (base s:ByteArray) (w:World) (h:3000 < base.size∨3000 < s.size) :
  Calls prog 76 #[.string base,.string s] w fun e w'=>e=.returned (.tuple #[.string (st []),.int .i64 2])∧Below w.heap.size w w':=by
 by_cases hb:3000 < base.size
 ·have hd:decide (3000 < base.size)=true:=by simpa using hb
  go_enter func76,ntmps76;go_wp2_with (go_at_call 82;refine(z3h _ _).mono ?_;rintro e w' ⟨rfl,rfl⟩;rw[hd]);go_ret2;exact⟨rfl,Below.refl _ _⟩
 ·have hd:decide (3000 < base.size)=false:=by simpa using hb
  have hd2:decide (3000 < s.size)=true:=by simpa using h.resolve_left hb
  clear hb h;go_enter func76,ntmps76;go_wp2_with fail;refine(z3h base _).mono ?_;rintro e w' ⟨rfl,rfl⟩;rw[hd];go_wp2_with fail;refine(z3h s _).mono ?_;rintro e w' ⟨rfl,rfl⟩;rw[hd2];go_wp2_with fail;go_ret2;exact⟨rfl,Below.refl _ _⟩

theorem q05 (base s:ByteArray) (w:World) (hb:base.size≤3000) (hs:s.size≤3000) (h0:Mg.z1u base.data.toList=0) :
  Calls prog 76 #[.string base,.string s] w fun e w'=>e=.returned (.tuple #[.string (st []),.int .i64 1])∧Below w.heap.size w w':=by
 have hd:decide (3000 < base.size)=false:=decide_eq_false (by omega);have hd2:decide (3000 < s.size)=false:=decide_eq_false (by omega);have H0:=Ld h0;clear h0;go_enter func76,ntmps76;go_wp2_with fail;refine(z3h base _).mono ?_;rintro e w' ⟨rfl,rfl⟩;rw[hd];go_wp2_with fail;refine(z3h s _).mono ?_;rintro e w' ⟨rfl,rfl⟩;rw[hd2];go_wp2_with fail;refine(z5c base _ (by omega)).mono ?_;rintro e w1 ⟨rfl,hb1⟩;rw[H0.out];go_wp2_with fail;go_ret2;exact⟨rfl,hb1⟩

theorem q2b (base s:ByteArray) (w:World) (hb:base.size≤3000) (hs:s.size≤3000) (h0:Mg.z1u base.data.toList ≠ 0) (hn:Mg.q36 (Mg.resU (Mg.split base.data.toList) (Mg.split s.data.toList))=false) :
  Calls prog 76 #[.string base,.string s] w fun e w'=>e=.returned (.tuple #[.string (st []),.int .i64 1])∧Below w.heap.size w w':=by
 have hd:decide (3000 < base.size)=false:=decide_eq_false (by omega);have hd2:decide (3000 < s.size)=false:=decide_eq_false (by omega);obtain⟨n,hne⟩:∃ n,n=Mg.z1u base.data.toList:=⟨_,rfl⟩;rw[← hne] at h0;have hz:((n:Int) == 0)=false:=beq_eq_false_iff_ne.2 (by omega);have HN:=Ld hne;have HJ:=Ld hn;clear hne hn;go_enter func76,ntmps76;go_wp2_with fail;refine(z3h base _).mono ?_;rintro e w' ⟨rfl,rfl⟩;rw[hd];go_wp2_with fail;refine(z3h s _).mono ?_;rintro e w' ⟨rfl,rfl⟩;rw[hd2];go_wp2_with fail;refine(z5c base _ (by omega)).mono ?_;rintro e w1 ⟨rfl,hb1⟩;rw[← HN.out];go_wp2_with fail;refine(z9v base s _ hb hs).mono ?_;rintro e w2 ⟨rfl,hb2⟩;rw[HJ.out];go_wp2_with fail;go_ret2;exact⟨rfl,hb1.trans (hb2.mono hb1.size)⟩

theorem q2c (base s:ByteArray) (w:World) (hb:base.size≤3000) (hs:s.size≤3000) (h0:Mg.z1u base.data.toList ≠ 0) (hn:Mg.q36 (Mg.resU (Mg.split base.data.toList) (Mg.split s.data.toList))=true) :
  Calls prog 76 #[.string base,.string s] w fun e w'=>e=.returned (.tuple #[.string (st (Mg.join (Mg.resU (Mg.split base.data.toList) (Mg.split s.data.toList)))),.int .i64 0])∧Below w.heap.size w w':=by
 have hd:decide (3000 < base.size)=false:=decide_eq_false (by omega);have hd2:decide (3000 < s.size)=false:=decide_eq_false (by omega);obtain⟨n,hne⟩:∃ n,n=Mg.z1u base.data.toList:=⟨_,rfl⟩;rw[← hne] at h0;have hz:((n:Int) == 0)=false:=beq_eq_false_iff_ne.2 (by omega);have HN:=Ld hne;have HJ:=Ld hn;clear hne hn;go_enter func76,ntmps76;go_wp2_with fail;refine(z3h base _).mono ?_;rintro e w' ⟨rfl,rfl⟩;rw[hd];go_wp2_with fail;refine(z3h s _).mono ?_;rintro e w' ⟨rfl,rfl⟩;rw[hd2];go_wp2_with fail;refine(z5c base _ (by omega)).mono ?_;rintro e w1 ⟨rfl,hb1⟩;rw[← HN.out];go_wp2_with fail;refine(z9v base s _ hb hs).mono ?_;rintro e w2 ⟨rfl,hb2⟩;rw[HJ.out];go_wp2_with fail;go_ret2;exact⟨rfl,hb1.trans (hb2.mono hb1.size)⟩
theorem q7c (base s:List UInt8) (w:World) :
  Calls prog 175 #[.string (st base),.string (st s)] w fun e w'=>e=.returned (.string (st (Mk.light base s)))∧Below w.heap.size w w':=by
 have walk:∀ (x:List UInt8) (c:Int),(c=0→Mk.light base s=x)→(c ≠ 0→Mk.light base s=s)→(Calls prog 76 #[.string (st base),.string (st s)] w fun e w'=>e=.returned (.tuple #[.string (st x),.int .i64 c])∧Below w.heap.size w w') →
   Calls prog 175 #[.string (st base),.string (st s)] w fun e w'=>e=.returned (.string (st (Mk.light base s)))∧Below w.heap.size w w':=by
  intro x c h0 h1 hc;have HC:=Ld hc;have H0:=Ld h0;have H1:=Ld h1;clear hc h0 h1;go_enter func175,ntmps175;go_wp2_with fail;refine HC.out.mono ?_;rintro e w1 ⟨rfl,hb⟩
  by_cases h:c=0
  ·have E:=Ld (H0.out h)
   subst h;go_wp2_with fail;go_ret;exact⟨z9e (by rw[E.out]),hb⟩
  ·have E:=Ld (H1.out h)
   have hcb:(c == 0)=false:=beq_eq_false_iff_ne.2 h;go_wp2_with fail;go_ret;exact⟨z9e (by rw[E.out]),hb⟩
 have hl:Mk.light base s=if 3000 < base.length∨3000 < s.length∨Mg.z1u base=0 then s else match Mg.res base s with | none=>s | some t=>t:=rfl
 by_cases h1:3000 < base.length∨3000 < s.length
 ·exact walk [] 2 (fun h=>absurd h (by decide)) (fun _=>by rw[hl,if_pos];rcases h1 with h | h;exact .inl h;exact .inr (.inl h)) (q06 (st base) (st s) w h1)
 have hb:base.length≤3000:=by omega
 have hs:s.length≤3000:=by omega
 by_cases h2:Mg.z1u base=0
 ·exact walk [] 1 (fun h=>absurd h (by decide)) (fun _=>by rw[hl,if_pos (.inr (.inr h2))]) (q05 (st base) (st s) w hb hs h2)
 have hl2:Mk.light base s=match Mg.res base s with | none=>s | some t=>t:=by
  rw[hl,if_neg];rintro (q | q | q)
  ·omega
  ·omega
  ·exact h2 q
 cases hj:Mg.q36 (Mg.resU (Mg.split base) (Mg.split s)) with
 | false =>
  refine walk [] 1 (fun h=>absurd h (by decide)) (fun _=>?_) (q2b (st base) (st s) w hb hs h2 hj);rw[hl2,Mg.res];simp only [hj];rfl
 | true =>
  refine walk (Mg.join (Mg.resU (Mg.split base) (Mg.split s))) 0 (fun _=>?_) (fun h=>absurd rfl h) (q2c (st base) (st s) w hb hs h2 hj);rw[hl2,Mg.res];simp only [hj];rfl

theorem j4u (e:List UInt8) (a:Mk.At) (w:World) :
  Calls prog 136 #[.string (st e),atV a] w fun x w'=>x=.returned (.bool (Mk.mayB e a.n))∧Below w.heap.size w w':=by
 have hst:∀ l:List UInt8,(st l).toList=l:=fun l=>Lib.toList_data _
 have hm:Mk.mayB e a.n=if e=[97] then a.n == [104,114,101,102] || a.n == [116,105,116,108,101] else if e=[105,109,103] then a.n == [115,114,99] || a.n == [97,108,116] else false:=rfl
 have hal:=fun o=>(Below.refl w.heap.size w).alloc (Lr) o
 have HAL:=Ld hal;clear hal;unfold atV
 by_cases h1:e=[97]
 ·have HM:Hid (Mk.mayB e a.n=(a.n == [104,114,101,102] || a.n == [116,105,116,108,101])):=by show _=_;rw[hm,if_pos h1]
  have e1:(e == [97])=true:=beq_iff_eq.2 h1;clear hm h1;go_enter func136,ntmps136;go_wp2_with fail
  all_goals (go_ret;refine⟨Z8 ?_,HAL.out _⟩;first | (rw[HM.out];done) | (rw[HM.out];simp[*];done))
 ·have e1:(e == [97])=false:=beq_eq_false_iff_ne.2 h1
  by_cases h2:e=[105,109,103]
  ·have HM:Hid (Mk.mayB e a.n=(a.n == [115,114,99] || a.n == [97,108,116])):=by show _=_;rw[hm,if_neg h1,if_pos h2]
   have e2:(e == [105,109,103])=true:=beq_iff_eq.2 h2;clear hm h1 h2;go_enter func136,ntmps136;go_wp2_with fail
   all_goals (go_ret;refine⟨Z8 ?_,HAL.out _⟩;first | (rw[HM.out];done) | (rw[HM.out];simp[*];done))
  ·have HM:Hid (Mk.mayB e a.n=false):=by show _=_;rw[hm,if_neg h1,if_neg h2]
   have e2:(e == [105,109,103])=false:=beq_eq_false_iff_ne.2 h2;clear hm;go_enter func136,ntmps136;go_wp2_with fail
   all_goals (go_ret;exact⟨Z8 HM.out.symm,HAL.out _⟩)

theorem j2l (n:List UInt8):Lib.containsS ((Mk.z9b.map st).take 14) (st n)=Mk.z1j n:=by
 rw[List.take_of_length_le (by decide)];rw[Bool.eq_iff_iff,Lib.containsS_iff,Mk.z1j,List.contains_iff_mem,List.mem_map];constructor
 ·rintro ⟨x,h1,h2⟩
  have:x=n:=by have:=congrArg (fun b:ByteArray=>b.data.toList) h2;exact this
  rw[← this];exact h1
 ·intro h
  exact⟨n,h,rfl⟩
theorem q2o (n:List UInt8) (w:World) :
  Calls prog 138 #[.string (st n)] w fun e w'=>e=.returned (.bool (Mk.z1j n))∧Below w.heap.size w w':=by
 go_enter func138,ntmps138;go_wp2_with fail;have hal:=(Below.refl w.heap.size w).alloc (Lr) (.cells ((Mk.z9b.map fun x=>Value.string (st x)).toArray) 9);have hc:=Tryz.slices_Contains_string w.heap.size 0 14 14 (Mk.z9b.map st) (st n) (w.alloc (.cells ((Mk.z9b.map fun x=>Value.string (st x)).toArray) 9)) (by decide) (by decide) (fun j hj=>by
  have hj':j < 14:=hj;rw[Nat.zero_add,Blk.cell (Blk.new w 9 ((Mk.z9b.map fun x=>Value.string (st x)).toArray)) j]
  rcases (by omega:j=0∨j=1∨j=2∨j=3∨j=4∨j=5∨j=6∨j=7∨j=8∨j=9∨j=10∨j=11∨j=12∨j=13) with h | h | h | h | h | h | h | h | h | h | h | h | h | h <;> subst h <;> rfl)
 rw[j2l] at hc;refine hc.mono ?_;rintro e w1 ⟨rfl,rfl⟩;go_wp2_with fail;go_ret;exact⟨rfl,hal⟩
theorem j4g (P:Nat) (nm:List UInt8) (l:List Mk.At) (w:World) (hP:P < w.heap.size) (hc:w.cell? ⟨P,0,none⟩=some (.string (st nm))):q5m 196 #[.pointer (some ⟨P,0,none⟩)] (fun a=>a.n == nm) l w:=by
 intro w1 hb a _;have c0:w1.cell? ⟨P,0,none⟩=some (.string (st nm)):=(hb.cell (p:=⟨P,0,none⟩) hP).trans hc;have hP1:P < w1.heap.size:=Nat.lt_of_lt_of_le hP hb.size;unfold atV;go_enter func196,ntmps196;go_wp2_with fail;go_ret;exact⟨Z8 (by rw[show (st a.n).toList=a.n from Lib.toList_data _,show (st nm).toList=nm from Lib.toList_data _]),(Below.refl _ w1).alloc (Lr) _⟩
theorem eg_has1 (args:Array Value) (w:World):(callFunc 196 args).run prog w=.ok (.enter 196 args) w:=Z7 func196 (by kernel_rfl) rfl _ _
theorem cl_has (l:List Mk.At) (nm:List UInt8) (v:Value) (K:Nat→Prop) (w:World) (hv:AtsV w K v l) (hK:∀ b,K b→b < w.heap.size) (hl:l.length≤33554432) :
  Calls prog 139 #[v,.string (st nm)] w fun e w'=>e=.returned (.bool (Mk.z4m l nm))∧Below w.heap.size w w':=by
 have hal:=(Below.refl w.heap.size w).alloc (Lr) (.cells #[.string (st nm)] 9);have PB:=Blk.new w 9 #[.string (st nm)];have HCF:=Ld (z2c 196 #[.pointer (some ⟨w.heap.size,0,none⟩)] (fun a=>a.n == nm) eg_has1 l v K (w.alloc (.cells #[.string (st nm)] 9)) (hv.below hK hal) (fun b hb=>Nat.lt_of_lt_of_le (hK b hb) hal.size) hl (j4g w.heap.size nm l _ PB.lt (PB.cell 0)));have AL:=Ld hal;clear hal PB hK hv;go_enter func139,ntmps139;go_wp2_with fail;refine HCF.out.mono ?_;rintro e w1 ⟨rfl,hb⟩;have L:=Ld (AL.out.trans (hb.mono AL.out.size));clear hb HCF;go_wp2_with fail;go_ret;exact⟨rfl,L.out⟩
theorem join_len_le (u:Mg.U):(Mg.join u).length≤u.sch.length + u.au.length + u.pa.length + u.qu.length + u.fr.length + 5:=by
 unfold Mg.join;simp only [List.length_append];have h1:∀ (b:Bool) (x:List UInt8),(if b then x else []).length≤x.length:=by intro b x;cases b <;> simp
 have a1:=h1 u.hs (u.sch++[58]);have a2:=h1 u.ha ([47,47]++u.au);have a3:=h1 u.hq ([63]++u.qu);have a4:=h1 u.hf ([35]++u.fr);simp only [List.length_append,List.length_cons,List.length_nil] at a1 a2 a3 a4 ⊢;omega
theorem q6c (base s:List UInt8):(Mk.light base s).length≤s.length + 50000:=by
 unfold Mk.light
 split
 ·omega
 ·rename_i h
  cases hr:Mg.res base s with
  | none=>simp only;omega
  | some t =>
   simp only;unfold Mg.res at hr;simp only at hr
   split at hr
   ·injection hr with hr
    rw[← hr,← rU_res];obtain⟨b1,b2,b3,b4,b5⟩:=z7e base;obtain⟨s1,s2,s3,s4,s5⟩:=z7e s;obtain⟨r1,r2,r3,r4⟩:=rU2_le (Mg.split base) (Mg.split s);have r5:=q9z (Mg.split base) (Mg.split s);have r6:=Mg.q4a (z3z (Mg.split base) (Mg.split s));refine Nat.le_trans (join_len_le _) ?_;simp only;omega
   ·cases hr
theorem q43 (base e:List UInt8) (l:List Mk.At) (k:Nat) (h:k < l.length):Mk.Y4 base e (l.take (k + 1))=Mk.Y4 base e (l.take k)++Mk.z3p base e l[k]:=by
 unfold Mk.Y4;rw[List.take_succ_eq_append_getElem h,List.flatMap_append];simp
theorem j1k (base e:List UInt8) (a:Mk.At):(Mk.z3p base e a).length≤1:=by
 unfold Mk.z3p
 split
 ·simp
 split
 ·split <;> simp
 ·simp
theorem q0r (base e:List UInt8) (l:List Mk.At):(Mk.Y4 base e l).length≤l.length:=by
 induction l with
 | nil=>exact Lr
 | cons a t ih =>
  have:=j1k base e a;show (Mk.z3p base e a++Mk.Y4 base e t).length≤t.length + 1;rw[List.length_append];omega
theorem cl_attrs (base n t:List UInt8) (a:List Mk.At) (va vk:Value) (kl:Nat) (ck:Nat) (aok:Option Addr) (hvk:vk=.slice aok kl ck) (C:Nat) (K:Nat→Prop) (w:World) (hC:C < w.heap.size) (hCc:w.cell? ⟨C,0,none⟩=some (.string (st base))) (hva:AtsV w K va a) (hK:∀ b,K b→b < w.heap.size) (hl:Mk.Fo.atB a≤33554432) :
  Calls prog 250 #[.pointer (some ⟨C,0,none⟩),z05 n va t vk] w fun e w'=>∃ v,e=.returned v∧w'.ownsRow w.heap.size 56 2 v (Mk.Y4 base n a).length (Y8 (Mk.Y4 base n a))∧Below w.heap.size w w':=by
 subst hvk;have hll:=Mk.z5f a;obtain⟨b,o,cap,hKb,hv1,hcl⟩:=hva.at_
 have HC:=Ld hcl;clear hcl;have hst:∀ l:List UInt8,(st l).toList=l:=fun l=>Lib.toList_data _
 rcases hv1 with hv1 | ⟨aoz,hv1,hl0⟩
 ·subst hv1
  unfold z05;have hal0:=(Below.refl w.heap.size w).alloc (Lr) (.cells #[.string (st n),.slice (some ⟨b,o,none⟩) a.length cap,.string (st t),.slice aok kl ck] 53);have BL0:=Ld hal0;have NB:=Ld (Blk.new w 53 #[.string (st n),.slice (some ⟨b,o,none⟩) a.length cap,.string (st t),.slice aok kl ck]);clear hal0;go_enter func250,ntmps250;go_wp2_with fail;generalize hw0:w.alloc (.cells #[.string (st n),.slice (some ⟨b,o,none⟩) a.length cap,.string (st t),.slice aok kl ck] 53)=w0 at BL0 NB ⊢;clear hw0
  go_loopw [5,11] (fun v i wr=>∃ k:Nat,k≤a.length∧i=.int .i64 k∧Hid (wr.ownsRow w0.heap.size 56 2 v (Mk.Y4 base n (a.take k)).length (Y8 (Mk.Y4 base n (a.take k))))∧Hid (Below w0.heap.size w0 wr)) (fun _ i _=>a.length - (intOf i).toNat)
  case atStart=>exact⟨0,Nat.zero_le _,rfl,World.ownsRow_nil _ _ _ _,Below.refl _ _⟩
  case round =>
   obtain⟨k,hk,rfl,OW,BL⟩:=hrel;have hsz:=BL.out.size;have hlen:=q0r base n (a.take k);rw[List.length_take] at hlen;have hBw:=BL0.out.trans (BL.out.mono BL0.out.size)
   by_cases hlt:k < a.length
   ·have hb:b < w.heap.size:=hK b (hKb (by intro e;subst e;simp at hlt))
    obtain⟨c0,c1⟩:=HC.out k hlt;rw[← hBw.cell (p:=⟨b,_,none⟩) hb] at c0 c1;have hmem:=Mk.q0h (List.getElem_mem hlt);have HT:=Ld (q43 base n a k hlt);generalize a[k]=x at c0 c1 HT hmem;have hNB:w.heap.size < w0.heap.size:=Blk.lt NB.out;have hal:=(Below.refl wr.heap.size wr).alloc (Lr) (.cells #[.string (st x.n),.string (st x.v)] 56);have PB1:=Ld (Blk.new wr 56 #[.string (st x.n),.string (st x.v)]);have BL1:=Ld (BL.out.trans (hal.mono hsz));have OW1:=Ld (z0f OW.out (Ap.of_below (S:=fun _=>False) hal) (fun _ _ q=>q));have p0:(wr.alloc (.cells #[.string (st x.n),.string (st x.v)] 56)).cell? ⟨w.heap.size,0,none⟩=some (.string (st n)):=(BL1.out.cell (p:=⟨w.heap.size,0,none⟩) hNB).trans (Blk.cell NB.out 0);have HAT:=Ld (j4u n x (wr.alloc (.cells #[.string (st x.n),.string (st x.v)] 56)));unfold atV at HAT;obtain⟨bm,hbm⟩:∃ bm,Mk.mayB n x.n=bm:=⟨_,rfl⟩;rw[hbm] at HAT;have hca:Mk.z3p base n x=if !bm then [] else if Mk.q19 x.n then (if Mk.z1k (Mk.light base x.v) then [⟨x.n,Mk.light base x.v⟩] else []) else [x]:=by rw[← hbm];rfl
    have HPO:=Ld (show u5.ownBlock ≠ some wr.heap.size from fun e=>by have:=(OW.out.lt _ e).2;omega);clear hal hbm HC OW BL hBw
    cases bm with
    | false =>
     have HT2:Hid (Mk.Y4 base n (a.take (k + 1))=Mk.Y4 base n (a.take k)):=by show _=_;rw[HT.out,hca];simp
     clear HT hca;go_wp2_with fail;refine HAT.out.mono ?_;rintro e w2 ⟨rfl,hb2⟩;have BL2:=Ld (BL1.out.trans (hb2.mono BL1.out.size));have OW2:Hid (w2.ownsRow w0.heap.size 56 2 u5 (Mk.Y4 base n (a.take (k + 1))).length (Y8 (Mk.Y4 base n (a.take (k + 1))))):=by
      show World.ownsRow _ _ _ _ _ _ _;rw[HT2.out];exact z0f OW1.out (Ap.of_below (S:=fun _=>False) hb2) (fun _ _ q=>q)
     clear hb2 HAT;go_wp2_with fail;go_roundw
     case rel=>exact⟨k + 1,by omega,by go_num,OW2,BL2⟩
     case measure=>simp[intOf];omega
    | true =>
     have hca:Mk.z3p base n x=if Mk.q19 x.n then (if Mk.z1k (Mk.light base x.v) then [⟨x.n,Mk.light base x.v⟩] else []) else [x]:=by rw[hca];simp
     go_wp2_with fail;refine HAT.out.mono ?_;rintro e w2 ⟨rfl,hb2⟩;have BL2:=Ld (BL1.out.trans (hb2.mono BL1.out.size));have OW2:=Ld (z0f OW1.out (Ap.of_below (S:=fun _=>False) hb2) (fun _ _ q=>q));have PB2:=Ld (Blk.below PB1.out hb2 (Blk.lt PB1.out));clear hb2 HAT BL1 OW1 PB1 p0;have q0:w2.cell? ⟨wr.heap.size,0,none⟩=some (.string (st x.n)):=Blk.cell PB2.out 0;have hlk:=fun W=>j4v x.n W
     obtain⟨bk,hbk⟩:∃ bk,Mk.q19 x.n=bk:=⟨_,rfl⟩;rw[hbk] at hlk hca;have HLK:=Ld hlk;clear hlk hbk
     cases bk with
     | false =>
      have HT2:Hid (Mk.Y4 base n (a.take (k + 1))=Mk.Y4 base n (a.take k)++[⟨x.n,x.v⟩]):=by show _=_;rw[HT.out,hca];rfl
      clear HT hca;go_wp2_with fail;refine(HLK.out _).mono ?_;rintro e w3 ⟨rfl,hw3⟩;subst hw3;clear q0 HLK;have cw30:w3.cell? ⟨wr.heap.size,0,none⟩=some (.string (st x.n)):=Blk.cell PB2.out 0;have cw31:w3.cell? ⟨wr.heap.size,1,none⟩=some (.string (st x.v)):=Blk.cell PB2.out 1;obtain⟨i0,hi,hz0,hz1,hz2⟩:=info_parts Tryz.infoAttr;have ow10:=z0f OW2.out ((Ap.refl (fun _=>False) w3).alloc (.cells #[.string (st x.n),.string (st x.v)] 56)) (fun _ _ q=>q);have hsz9:=BL2.out.size;go_wp2_with (at_builtin;refine wpList_append_own _ rfl _ _ 50 rfl w0.heap.size 56 i0 (.agg #[.string ⟨#[]⟩,.string ⟨#[]⟩]) 2 32 underlying50 hi hz0 hz1 hz2 rfl (by decide) _ _ _ rfl ow10 ⟨w3.heap.size,0,none⟩ 1 1 [.string (st x.n),.string (st x.v)] rfl rfl (z0h _ _ _) (by intro u hu;simp at hu;rcases hu with rfl | rfl <;> rfl) (by unfold maxLen;omega) (by omega) (by simp;omega) ?_);intro v' w11 hown' hgrow _;have OWN:Hid (w11.ownsRow w0.heap.size 56 2 v' (Mk.Y4 base n (a.take (k + 1))).length (Y8 (Mk.Y4 base n (a.take (k + 1))))):=by
       show World.ownsRow _ _ _ _ _ _ _;rw[HT2.out,List.length_append,show Y8 (Mk.Y4 base n (a.take k)++[(⟨x.n,x.v⟩:Mk.At)])=Y8 (Mk.Y4 base n (a.take k))++[.string (st x.n),.string (st x.v)] by simp[Y8]];exact hown'
      have BLN:=Ld ((BL2.out.alloc hsz9 (.cells #[.string (st x.n),.string (st x.v)] 56)).grown hgrow (by simp;omega) (fun k hk=>(OW2.out.lt k hk).1));clear hown' hgrow ow10;go_wp2_with fail;go_roundw
      case rel=>exact⟨k + 1,by omega,by go_num,OWN,BLN⟩
      case measure=>simp[intOf];omega
     | true =>
      have hca:Mk.z3p base n x=if Mk.z1k (Mk.light base x.v) then [⟨x.n,Mk.light base x.v⟩] else []:=by rw[hca];simp
      have hll2:=q6c base x.v;go_wp2_with fail;refine(HLK.out _).mono ?_;rintro e w3 ⟨rfl,hw3⟩;subst hw3;have q1:w3.cell? ⟨wr.heap.size,1,none⟩=some (.string (st x.v)):=Blk.cell PB2.out 1;have cb:w3.cell? ⟨C,0,none⟩=some (.string (st base)):=((BL0.out.trans (BL2.out.mono BL0.out.size)).cell (p:=⟨C,0,none⟩) hC).trans hCc;have HL:=Ld (fun W=>q7c base x.v W);generalize Mk.light base x.v=lv at hca hll2 HL;have hP3:wr.heap.size < w3.heap.size:=Blk.lt PB2.out;clear q0 HLK;go_upto_region 7 with fail
      go_region_with (go_at_call 175;refine(HL.out _).mono ?_;rintro e w7 ⟨rfl,hb7⟩;have PB7:=Ld (Blk.below (Blk.drew PB2.out) hb7 hP3);have d1:w7.cell? ⟨wr.heap.size,1,none⟩=some (.string (st x.v)):=Blk.cell PB7.out 1;have g1:w7.frozen? ⟨wr.heap.size,1,none⟩=false:=Blk.frozen PB7.out 1)
      all_goals
       have OW8:=Ld (ownsRow_setCell_other (z0f OW2.out (((Ap.refl (fun _=>False) w3).drew).trans (Ap.of_below hb7)) (fun _ _ q=>q)) (a:=⟨wr.heap.size,1,none⟩) HPO.out (.string (st lv)));have PB8:Hid (Blk (w7.setCell ⟨wr.heap.size,1,none⟩ (.string (st lv))) wr.heap.size 56 #[.string (st x.n),.string (st lv)]):=Blk.set_ PB7.out 1 (.string (st lv));have BL8:=Ld ((BL2.out.drew.trans (hb7.mono BL2.out.size)).setCell (p:=⟨wr.heap.size,1,none⟩) hsz (.string (st lv)));generalize w7.setCell ⟨wr.heap.size,1,none⟩ (.string (st lv))=w8 at OW8 PB8 BL8 ⊢;clear HL hb7 PB7 d1 g1 OW2 PB2 BL2 q1 cb;have c81:w8.cell? ⟨wr.heap.size,1,none⟩=some (.string (st lv)):=Blk.cell PB8.out 1;have his:=j0g (st lv) w8 (by rw[Z4];omega);rw[z1o] at his;have hgl:Mk.z1k lv=(Mg.isSafe lv && decide (lv.length≤3000)):=rfl;generalize Mg.isSafe lv=bs at his hgl;have HIS:=Ld his;clear his
       cases bs with
       | false =>
        have HT2:Hid (Mk.Y4 base n (a.take (k + 1))=Mk.Y4 base n (a.take k)):=by show _=_;rw[HT.out,hca,hgl];simp
        clear HT hca hgl;go_wp2_with fail;refine HIS.out.mono ?_;rintro e w9 ⟨rfl,hb9⟩;have BL9:=Ld (BL8.out.trans (hb9.mono BL8.out.size));have OW9:Hid (w9.ownsRow w0.heap.size 56 2 u5 (Mk.Y4 base n (a.take (k + 1))).length (Y8 (Mk.Y4 base n (a.take (k + 1))))):=by
         show World.ownsRow _ _ _ _ _ _ _;rw[HT2.out];exact z0f OW8.out (Ap.of_below (S:=fun _=>False) hb9) (fun _ _ q=>q)
        clear hb9 HIS;go_wp2_with fail;go_roundw
        case rel=>exact⟨k + 1,by omega,by go_num,OW9,BL9⟩
        case measure=>simp[intOf];omega
       | true =>
        by_cases h3:lv.length≤3000
        ·have HT2:Hid (Mk.Y4 base n (a.take (k + 1))=Mk.Y4 base n (a.take k)++[⟨x.n,lv⟩]):=by show _=_;rw[HT.out,hca,hgl,decide_eq_true h3];simp
         have hsz3:¬ 3000 < (st lv).size:=by rw[Z4];omega
         clear HT hca hgl;go_wp2_with fail;refine HIS.out.mono ?_;rintro e w9 ⟨rfl,hb9⟩;have BL9:=Ld (BL8.out.trans (hb9.mono BL8.out.size));have OW9:=Ld (z0f OW8.out (Ap.of_below (S:=fun _=>False) hb9) (fun _ _ q=>q));have PB9:=Ld (Blk.below PB8.out hb9 (Blk.lt PB8.out));have d91:w9.cell? ⟨wr.heap.size,1,none⟩=some (.string (st lv)):=Blk.cell PB9.out 1;clear hb9 HIS c81;have cw90:w9.cell? ⟨wr.heap.size,0,none⟩=some (.string (st x.n)):=Blk.cell PB9.out 0;have cw91:w9.cell? ⟨wr.heap.size,1,none⟩=some (.string (st lv)):=Blk.cell PB9.out 1;obtain⟨i0,hi,hz0,hz1,hz2⟩:=info_parts Tryz.infoAttr;have ow10:=z0f OW9.out ((Ap.refl (fun _=>False) w9).alloc (.cells #[.string (st x.n),.string (st lv)] 56)) (fun _ _ q=>q);have hsz9:=BL9.out.size;go_wp2_with (at_builtin;refine wpList_append_own _ rfl _ _ 50 rfl w0.heap.size 56 i0 (.agg #[.string ⟨#[]⟩,.string ⟨#[]⟩]) 2 32 underlying50 hi hz0 hz1 hz2 rfl (by decide) _ _ _ rfl ow10 ⟨w9.heap.size,0,none⟩ 1 1 [.string (st x.n),.string (st lv)] rfl rfl (z0h _ _ _) (by intro u hu;simp at hu;rcases hu with rfl | rfl <;> rfl) (by unfold maxLen;omega) (by omega) (by simp;omega) ?_);intro v' w11 hown' hgrow _;have OWN:Hid (w11.ownsRow w0.heap.size 56 2 v' (Mk.Y4 base n (a.take (k + 1))).length (Y8 (Mk.Y4 base n (a.take (k + 1))))):=by
          show World.ownsRow _ _ _ _ _ _ _;rw[HT2.out,List.length_append,show Y8 (Mk.Y4 base n (a.take k)++[(⟨x.n,lv⟩:Mk.At)])=Y8 (Mk.Y4 base n (a.take k))++[.string (st x.n),.string (st lv)] by simp[Y8]];exact hown'
         have BLN:=Ld ((BL9.out.alloc hsz9 (.cells #[.string (st x.n),.string (st lv)] 56)).grown hgrow (by simp;omega) (fun k hk=>(OW9.out.lt k hk).1));clear hown' hgrow ow10;go_wp2_with fail;go_roundw
         case rel=>exact⟨k + 1,by omega,by go_num,OWN,BLN⟩
         case measure=>simp[intOf];omega
        ·have HT2:Hid (Mk.Y4 base n (a.take (k + 1))=Mk.Y4 base n (a.take k)):=by show _=_;rw[HT.out,hca,hgl,decide_eq_false h3];simp
         have hsz3:3000 < (st lv).size:=by rw[Z4];omega
         clear HT hca hgl;go_wp2_with fail;refine HIS.out.mono ?_;rintro e w9 ⟨rfl,hb9⟩;have BL9:=Ld (BL8.out.trans (hb9.mono BL8.out.size));have OW9:Hid (w9.ownsRow w0.heap.size 56 2 u5 (Mk.Y4 base n (a.take (k + 1))).length (Y8 (Mk.Y4 base n (a.take (k + 1))))):=by
          show World.ownsRow _ _ _ _ _ _ _;rw[HT2.out];exact z0f OW8.out (Ap.of_below (S:=fun _=>False) hb9) (fun _ _ q=>q)
         have d91:w9.cell? ⟨wr.heap.size,1,none⟩=some (.string (st lv)):=Blk.cell (Blk.below PB8.out hb9 (Blk.lt PB8.out)) 1;clear hb9 HIS c81;go_wp2_with fail;go_roundw
         case rel=>exact⟨k + 1,by omega,by go_num,OW9,BL9⟩
         case measure=>simp[intOf];omega
   ·have hke:k=a.length:=by omega
    have OWN:Hid (wr.ownsRow w0.heap.size 56 2 u5 (Mk.Y4 base n a).length (Y8 (Mk.Y4 base n a))):=by
     have:=OW.out;rw[hke,List.take_length] at this;exact this
    have BLF:=Ld hBw;clear OW HC;go_wp2_with fail;go_ret;exact⟨_,rfl,⟨OWN.out.1,OWN.out.2.imp id (fun ⟨g,c,r,h1,h2,h3⟩=>⟨g,c,r,h1,Nat.le_trans BL0.out.size h2,h3⟩)⟩,BLF.out⟩
 ·subst hl0
  subst hv1;unfold z05;have hal0:=(Below.refl w.heap.size w).alloc (Lr) (.cells #[.string (st n),.slice aoz 0 cap,.string (st t),.slice aok kl ck] 53);clear HC hK;go_enter func250,ntmps250;go_wp2_with fail;generalize w.alloc (.cells #[.string (st n),.slice aoz 0 cap,.string (st t),.slice aok kl ck] 53)=w0 at hal0 ⊢
  go_loopw [5,11] (fun v i wr=>v=.slice none 0 0∧i=.int .i64 0∧wr=w0) (fun _ _ _=>0)
  case atStart=>exact⟨rfl,rfl,rfl⟩
  case round =>
   obtain⟨rfl,rfl,rfl⟩:=hrel;go_wp2_with fail;go_ret;exact⟨_,rfl,World.ownsRow_nil _ _ _ _,hal0⟩
end Go.Proofs.YtjonkbdldebkiaaGreatDoor
