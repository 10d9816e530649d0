/- Contract of the program's Tokens: the tokens of a tree. Condition: at most 1099511627776 nodes, attributes and letters together. -/
import Derived.Test.YtagleefekmdldaaGreatDoorYMkTree13
import Derived.Laws.AppendOwnNone
set_option linter.unusedVariables false
set_option linter.unusedSimpArgs false
set_option maxHeartbeats 16000000
set_option maxRecDepth 100000
namespace Mk
def z4v (n:Bs) (a:List At) (t:Bs) (k:Fo):List Tok:=if n=[] then [⟨1,[],[],t⟩] else ⟨2,n,a,[]⟩ :: (if z0n n then [] else flat k++[⟨3,n,[],[]⟩])
theorem q1c (n:Bs) (a:List At) (t:Bs) (k r:Fo):flat (.node n a t k r)=z4v n a t k++flat r:=by
 unfold z4v;rw[flat]
 split
 ·rfl
 ·simp
theorem q4a:∀ f:Fo,(flat f).length≤2 * f.bulk
 | .nil=>Nat.zero_le _
 | .node n a t k r=>by
  have h1:=q4a k;have h2:=q4a r;have e:Fo.bulk (.node n a t k r)=1 + n.length + t.length + Fo.atB a + Fo.bulk k + Fo.bulk r:=rfl;rw[q1c,List.length_append,e];unfold z4v
  split
  ·simp;omega
  ·split
   ·simp;omega
   ·simp;omega
end Mk
namespace Go.Proofs.YtagleefekmdldaaGreatDoor
open Go.Proofs.Tryz Go.RowKit
theorem z0j.app {w:World} {K:Nat→Prop} {m:List Mk.Tok} {ys:List Value} (h2:z0j w K m ys):∀ {l:List Mk.Tok} {xs:List Value},z0j w K l xs→z0j w K (l++m) (xs++ys)
 | [],_,h=>by rw[h];exact h2
 | _ :: _,_,⟨va,zs,e1,e2,e3⟩=>⟨va,_,by rw[e1,List.append_assoc],e2,z0j.app h2 e3⟩
theorem z0j.one {w:World} {K:Nat→Prop}:∀ {l:List Mk.Tok} {xs:List Value},z0j w K l xs→∀ u ∈ xs,u.oneCell'=true
 | [],_,h,u,hu=>by rw[h] at hu;cases hu
 | _ :: _,_,⟨va,zs,e1,⟨ao,cap,e2,_⟩,e3⟩,u,hu=>by
  rw[e1] at hu
  rcases List.mem_append.1 hu with q | q
  ·simp at q
   rcases q with rfl | rfl | rfl | rfl
   ·rfl
   ·rfl
   ·rw[e2];rfl
   ·rfl
  ·exact e3.one u q
def KO (B:Nat) (w:World) (v:Value) (b:Nat):Prop:=B≤b∧b < w.heap.size∧v.ownBlock ≠ some b
structure OwnT (w:World) (B:Nat) (v:Value) (l:List Mk.Tok) (xs:List Value):Prop where
 own:w.ownsRow B 52 4 v l.length xs
 cells:z0j w (KO B w v) l xs
theorem OwnT.below {w w':World} {B:Nat} {v:Value} {l:List Mk.Tok} {xs:List Value} (h:OwnT w B v l xs) (hb:Below w.heap.size w w'):OwnT w' B v l xs :=
 ⟨z0f h.own (fun g e=>hb.block g (h.own.lt g e).2),h.cells.frame fun b q=>⟨⟨q.1,Nat.lt_of_lt_of_le q.2.1 hb.size,q.2.2⟩,hb.block b q.2.1⟩⟩
theorem OwnT.more {w w9 w10:World} {B:Nat} {v v':Value} {l l2:List Mk.Tok} {xs zs:List Value} (h:OwnT w B v l xs) (hb:Below w.heap.size w w9) (hown:w10.ownsRow B 52 4 v' (l.length + l2.length) (xs++zs)) (hg:w9.grownBy w10 v.ownBlock) (hf:v'.ownBlock=v.ownBlock∨v'.ownBlock=some w9.heap.size) (hz:z0j w9 (KO B w9 v) l2 zs):OwnT w10 B v' (l++l2) (xs++zs):=by
 have key:∀ b,KO B w9 v b→KO B w10 v' b∧w10.heap[b]? = w9.heap[b]?:=by
  rintro b ⟨q1,q2,q3⟩;refine⟨⟨q1,Nat.lt_of_lt_of_le q2 hg.size,fun e=>?_⟩,hg.block b q2 (fun e=>q3 e.symm)⟩
  rcases hf with e' | e'
  ·rw[e'] at e;exact q3 e
  ·rw[e'] at e;injection e with e;omega
 refine⟨by rw[List.length_append];exact hown,z0j.app (hz.frame key) (h.cells.frame fun b q=>?_)⟩;have q9:KO B w9 v b:=⟨q.1,Nat.lt_of_lt_of_le q.2.1 hb.size,q.2.2⟩;exact⟨(key b q9).1,(key b q9).2.trans (hb.block b q.2.1)⟩
theorem OwnT.toksV {w:World} {B:Nat} {v:Value} {l:List Mk.Tok} {xs:List Value} (h:OwnT w B v l xs):z1b w (fun g=>B≤g∧g < w.heap.size) v l:=by
 obtain⟨ao,cap,h1,h2,_,h4⟩:=z1v.of_own (K:=fun g=>B≤g∧g < w.heap.size) h.own (fun g e=>h.own.lt g e);exact⟨ao,cap,xs,h1,h2,h.cells.frame fun b q=>⟨⟨q.1,q.2.1⟩,rfl⟩,h4⟩
def TokensC (f:Mk.Fo):Prop:=∀ (v:Value) (K:Nat→Prop) (w:World),FoV w K v f→(∀ b,K b→b < w.heap.size)→Calls prog 42 #[v] w fun e w'=>∃ v' xs,e=.returned v'∧OwnT w' w.heap.size v' (Mk.flat f) xs∧(Mk.flat f=[]→v'=.slice none 0 0)∧Below w.heap.size w w'
theorem q70 (N:Nat):∀ (f:Mk.Fo),f.bulk < N→f.bulk≤549755813888→TokensC f:=by
 induction N with
 | zero=>intro f hN;omega
 | succ N ih =>
  intro f hN hf v K w hv hK;obtain⟨gm,o,cap,hv1,hlen,hat⟩:=hv.at_
  have HAT:=Ld hat
  have hst:∀ l:List UInt8,(st l).toList=l:=fun l=>Lib.toList_data _
  have hfl:=Mk.q4a f;have hgl:=Mk.Fo.z0m f;clear hat
  rcases hv1 with ⟨hv1,hKg⟩ | ⟨ao,hv1,hnil⟩
  ·subst hv1
   have hgm:=hK gm hKg;clear hv;go_enter func42,ntmps42;go_wp2_with fail
   go_loopw [3,8] (fun u i wr=>∃ (k:Nat) (L:List Mk.Tok) (xs:List Value),k≤f.len∧i=.int .i64 k∧Hid (L++Mk.flat (f.drop k)=Mk.flat f)∧Hid (OwnT wr w.heap.size u L xs)∧Hid (L=[]→u=.slice none 0 0)∧Hid (Below w.heap.size w wr)) (fun _ i _=>f.len - (intOf i).toNat)
   case atStart=>exact⟨0,[],[],Nat.zero_le _,rfl,by show _=_;rw[Mk.Fo.drop_zero];rfl,⟨World.ownsRow_nil _ _ _ _,rfl⟩,fun _=>rfl,Below.refl _ _⟩
   case round =>
    obtain⟨k,L,xs,hk,rfl,HL,OT,HNL,BL⟩:=hrel;have hsz:=BL.out.size;obtain⟨aou,capu,hu⟩:=Y1 OT.out.own;subst hu
    by_cases hlt:k < f.len
    ·obtain⟨n,a,t,kk,r,hd,hd1⟩:=Mk.Fo.z1x f k hlt
     obtain⟨va,vk,c0,c1,c2,c3,hva,hvk⟩:=HAT.out k n a t kk r hd;rw[← BL.out.cell (p:=⟨gm,_,none⟩) hgm] at c0 c1 c2 c3;obtain⟨aoa,capa,hva1,_⟩:=id hva;obtain⟨aok,capk,xsk,hvk1,_⟩:=id hvk;subst hva1;subst hvk1;have hdb:(f.drop k).bulk=1 + n.length + t.length + Mk.Fo.atB a + kk.bulk + r.bulk:=by rw[hd];rfl
     have hdb2:=Mk.Fo.z0s f k;have hLL:L.length + (Mk.z4v n a t kk).length≤2 * f.bulk:=by
      have h:=HL.out;rw[hd,Mk.q1c] at h;have:=congrArg List.length h;simp only [List.length_append] at this;omega
     have HL2:Hid ((L++Mk.z4v n a t kk)++Mk.flat (f.drop (k + 1))=Mk.flat f):=by
      show _=_;have h:=HL.out;rw[hd,Mk.q1c] at h;rw[hd1,List.append_assoc];exact h
     have hal:=(Below.refl wr.heap.size wr).alloc (Lr) (.cells #[.string (st n),.slice aoa a.length capa,.string (st t),.slice aok kk.len capk] 38);have BL1:=Ld (BL.out.trans (hal.mono hsz));have OT1:=Ld (OT.out.below hal);have HVA:=Ld (hva.below hK BL1.out);have HVK:=Ld (hvk.below hK BL1.out);have PB:=Ld (Blk.new wr 38 #[.string (st n),.slice aoa a.length capa,.string (st t),.slice aok kk.len capk]);have HTC:=Ld (ih kk (by omega) (by omega));obtain⟨i0,hi,hz0,hz1,hz2⟩:=info_parts Tryz.infoTok;have hrN:∀ g,(Value.slice aou L.length capu).ownBlock=some g→g < wr.heap.size:=fun g e=>(OT.out.own.lt g e).2
     have HRN:=Ld hrN;have hatl:=Mk.z1l a;have hal9:a.length≤549755813888:=by omega
     clear HAT hal HL hd hd1 hva hvk OT BL hrN hdb2;go_upto_region 5 with fail;clear c0 c1 c2 c3;generalize wr.alloc (.cells #[.string (st n),.slice aoa a.length capa,.string (st t),.slice aok kk.len capk] 38)=w1 at BL1 OT1 HVA HVK PB ⊢;generalize wr.heap.size=M at PB HRN ⊢;have n0:w1.cell? ⟨M,0,none⟩=some (.string (st n)):=Blk.cell PB.out 0;have n1:w1.cell? ⟨M,1,none⟩=some (.slice aoa a.length capa):=Blk.cell PB.out 1;have n2:w1.cell? ⟨M,2,none⟩=some (.string (st t)):=Blk.cell PB.out 2;have n3:w1.cell? ⟨M,3,none⟩=some (.slice aok kk.len capk):=Blk.cell PB.out 3;have hMl:M < w1.heap.size:=Blk.lt PB.out;have hsz1:=BL1.out.size;have HMR:Hid ((Value.slice aou L.length capu).ownBlock ≠ some M):=fun e=>Nat.lt_irrefl _ (HRN.out M e)
     have hne:n=[]∨n.isEmpty=false:=by
      cases n with
      | nil=>exact .inl rfl
      | cons _ _=>exact .inr rfl
     rcases hne with hn | hn
     ·have he:n.isEmpty=true:=by rw[hn];rfl
      have hfo:Mk.z4v n a t kk=[⟨1,[],[],t⟩]:=by unfold Mk.z4v;rw[if_pos hn]
      rw[hfo] at HL2 hLL;clear hn hfo;have ow:=X8 OT1.out.own ((Ap.refl (fun _=>False) w1).alloc (.cells #[.int .i64 1,.string ⟨#[]⟩,.slice none 0 0,.string (st t)] 52)) (fun _ _ q=>q);have hal:=(Below.refl w1.heap.size w1).alloc (Lr) (.cells #[.int .i64 1,.string ⟨#[]⟩,.slice none 0 0,.string (st t)] 52);simp only [List.length_cons,List.length_nil] at hLL;go_wp2_with (at_builtin;refine Q9 rfl _ _ 27 rfl w.heap.size 52 i0 (.agg #[.int .i64 0,.string ⟨#[]⟩,.slice none 0 0,.string ⟨#[]⟩]) 4 64 underlying27 hi hz0 hz1 hz2 rfl (by decide) _ _ _ rfl ow ⟨w1.heap.size,0,none⟩ 1 1 [.int .i64 1,.string ⟨#[]⟩,.slice none 0 0,.string (st t)] rfl rfl (Y9 w1 _ _) (by intro u hu;simp at hu;rcases hu with rfl | rfl | rfl | rfl <;> rfl) (by decide) (by unfold maxLen;omega) (by omega) (by simp;omega) ?_);intro v9 w9 hown9 hg9 hf9;have OT9:=Ld (OT1.out.more (l2:=[⟨1,[],[],t⟩]) hal hown9 hg9 (by rw[World.size_alloc];exact hf9) ⟨.slice none 0 0,[],rfl,AtsV.nil _ _,rfl⟩);have BL9:=Ld ((BL1.out.trans (hal.mono hsz1)).grown hg9 (by simp;omega) (fun q hq=>(OT1.out.own.lt q hq).1));clear hown9 hg9 hf9 hal ow hi hz0 hz1 hz2;go_wp2_with fail;go_roundw
      case rel=>exact⟨k + 1,_,_,by omega,by go_num,HL2.out,OT9.out,fun e=>by simp at e,BL9.out⟩
      case measure=>simp[intOf];omega
     ·have hnn:n ≠ []:=by intro e;rw[e] at hn;cases hn
      have hfo:Mk.z4v n a t kk=⟨2,n,a,[]⟩ :: (if Mk.z0n n then [] else Mk.flat kk++[⟨3,n,[],[]⟩]):=by unfold Mk.z4v;rw[if_neg hnn]
      rw[hfo] at HL2 hLL;clear hnn hfo;have hL9:L.length≤1099511627776:=by omega
      go_upto_region 7 with fail;have HCL:Hid (∀ W,Below w1.heap.size w1 W→Calls prog 59 #[.slice aoa a.length capa] W fun e w'=>∃ v',e=.returned v'∧w'.ownsRow W.heap.size 73 2 v' a.length (Z5 a)∧Below W.heap.size W w'):=fun W hW=>q91 a _ K W (HVA.out.frame (fun g hg=>⟨hg,hW.block g (by have:=hK g hg;omega)⟩)) (fun g hg=>by have:=hK g hg;have:=hW.size;omega) (by omega)
      have HFR:Hid (∀ W:World,W.heap[M]? = w1.heap[M]?→W.cell? ⟨M,0,none⟩=some (.string (st n))∧W.cell? ⟨M,1,none⟩=some (.slice aoa a.length capa)):=fun W hW=>⟨(cell_of_block hW _).trans n0,(cell_of_block hW _).trans n1⟩
      go_cut [3] (fun u wx=>∃ L2 xs2 ao2 cap2,u=.slice ao2 L2.length cap2∧L2=L++[⟨2,n,a,[]⟩]∧Hid (OwnT wx w.heap.size u L2 xs2)∧Hid (Below w.heap.size w wx)∧Hid (wx.heap[M]? = w1.heap[M]?)∧Hid (∀ g,u.ownBlock=some g→g ≠ M))
      case first =>
       have HLL:=Ld hL9;clear n2 n3 HL2 hLL hk hdb hfl hgl hf hN hlen hlt hatl HTC HVK
       go_region_held3 (fun w'=>w'.cell? ⟨M,0,none⟩=some (.string (st n))∧w'.cell? ⟨M,1,none⟩=some (.slice aoa a.length capa)) (first
        | exact HFR.out _ rfl
        | exact HFR.out _ (hB7.block M hMl)
        | exact HFR.out _ ((hB7.alloc hB7.size _).block M hMl)
        | exact HFR.out _ hM9) (first | (go_at_call 59;refine(HCL.out _ (Below.refl _ _).drew).mono ?_;rintro e w7 ⟨v7,rfl,ow7,hb7⟩;obtain⟨ao7,cap7,rfl⟩:=Y1 ow7;have hB7:Below w1.heap.size w1 w7:=((Below.refl _ _).drew).trans (hb7.mono (Lr))) | (refine Y7 rfl (.tmp 21) (.tmp 28) 27 rfl w.heap.size 52 i0 (.agg #[.int .i64 0,.string ⟨#[]⟩,.slice none 0 0,.string ⟨#[]⟩]) 4 64 underlying27 hi hz0 hz1 hz2 rfl (by decide) (.slice aou L.length capu) L.length xs (by simp[Act.eval,Act.put]) (X8 (OT1.out.below hB7).own ((Ap.refl (fun _=>False) w7).alloc (.cells #[.int .i64 2,.string (st n),.slice ao7 a.length cap7,.string ⟨#[]⟩] 52)) (fun _ _ q=>q)) ⟨w7.heap.size,0,none⟩ 1 1 [.int .i64 2,.string (st n),.slice ao7 a.length cap7,.string ⟨#[]⟩] (by simp[Act.eval,Act.put]) rfl (Y9 w7 _ _) (by intro u hu;simp at hu;rcases hu with rfl | rfl | rfl | rfl <;> rfl) (by decide) (by have:=HLL.out;unfold maxLen;omega) (by have:=HLL.out;omega) (by have:=hB7.size;simp;omega) ?_;intro v9 w9 hown9 hg9 hf9;obtain⟨ao9,cap9,rfl⟩:=Y1 hown9;have hal7:=hB7.alloc hB7.size (.cells #[.int .i64 2,.string (st n),.slice ao7 a.length cap7,.string ⟨#[]⟩] 52);have hM9:w9.heap[M]? = w1.heap[M]?:=(hg9.block M (Nat.lt_of_lt_of_le hMl hal7.size) (fun e=>HMR.out e.symm)).trans (hal7.block M hMl);have hne9:∀ g,(Value.slice ao9 (L.length + 1) cap9).ownBlock=some g→g ≠ M:=(fun g e q=>hf9.elim (fun e'=>HMR.out (by rw[← e',e,q])) (fun e'=>by rw[e'] at e;injection e with e;have:=hal7.size;subst q;rw[← e] at hMl;omega));have OT9:=(OT1.out.more (l2:=[⟨2,n,a,[]⟩]) hal7 hown9 hg9 hf9 ⟨.slice ao7 a.length cap7,[],rfl,(AtsV.of_own (K:=fun g=>w1.heap.size≤g∧g < w7.heap.size) ow7 (fun g hg=>ow7.lt g hg)).frame (fun g hg=>⟨⟨Nat.le_trans hsz1 hg.1,by have:=hg.2;simp;omega,fun e=>by have:=(OT1.out.own.lt g e).2;have:=hg.1;omega⟩,Below.heap_alloc w7 _ g hg.2⟩),rfl⟩);have BL9:=((BL1.out.trans (hal7.mono hsz1)).grown hg9 (by have:=hal7.size;omega) (fun q hq=>(OT1.out.own.lt q hq).1))))
       all_goals
        have HREL:=Ld (And.intro OT9 (And.intro BL9 (And.intro hM9 hne9)));clear OT9 BL9 hM9 hne9 hown9 hg9 hf9 hal7 hB7 hb7 HFR HCL ow7 hi hz0 hz1 hz2 OT1 BL1;go_wp2_with fail;go_meet
        case rel=>exact⟨L++[(⟨2,n,a,[]⟩:Mk.Tok)],_,ao9,cap9,by rw[List.length_append];rfl,rfl,HREL.out.1,HREL.out.2.1,HREL.out.2.2.1,HREL.out.2.2.2⟩
      case rest =>
       obtain⟨L2,xs2,ao2,cap2,rfl,hL2,OT2,BL2,HM2,HN2⟩:=hcut;obtain⟨wb,hwb⟩:∃ x,x=wc:=⟨_,rfl⟩;subst hwb;have m0:wb.cell? ⟨M,0,none⟩=some (.string (st n)):=(cell_of_block HM2.out _).trans n0;have m3:wb.cell? ⟨M,3,none⟩=some (.slice aok kk.len capk):=(cell_of_block HM2.out _).trans n3;have hMb:M < wb.heap.size:=Blk.lt (show Blk wb M _ _ from HM2.out.trans PB.out);have hl2:L2.length=L.length + 1:=by rw[hL2,List.length_append];rfl
       have HLN:Hid (L2 ≠ []):=by intro e;rw[e] at hl2;simp at hl2
       have HVK2:Hid (FoV wb K (.slice aok kk.len capk) kk):=HVK.out.frame (fun b q=>⟨q,by
        have h1:=BL1.out.block b (hK b q);have h2:=BL2.out.block b (hK b q);rw[h1,h2]⟩)
       have hszb:=BL2.out.size;have HL3:Hid (L2++((if Mk.z0n n then [] else Mk.flat kk++[⟨3,n,[],[]⟩])++Mk.flat (f.drop (k + 1)))=Mk.flat f):=by
        show _=_;rw[hL2,← HL2.out];simp
       have hl3:L2.length + (if Mk.z0n n then [] else Mk.flat kk++[(⟨3,n,[],[]⟩:Mk.Tok)]).length≤2 * f.bulk:=by
        simp only [List.length_cons] at hLL;omega
       have hem:=q52 n wb;obtain⟨eb,heb⟩:∃ eb,Mk.z0n n=eb:=⟨_,rfl⟩;rw[heb] at hem HL3 hl3;have HEM:=Ld hem;clear hl2;clear hem heb HL2 hLL n0 n1 n2 n3 OT1 HVA HVK HFR HCL HMR HRN hL2 PB
       cases eb with
       | true =>
        have HL4:Hid (L2++Mk.flat (f.drop (k + 1))=Mk.flat f):=by show _=_;have h:=HL3.out;simpa using h
        go_wp2_with fail;refine HEM.out.mono ?_;rintro e w5 ⟨rfl,hw5⟩;subst w5;clear m0 m3 HEM HL3;go_wp2_with fail;go_roundw
        case rel=>exact⟨k + 1,L2,xs2,by omega,by go_num,HL4.out,OT2.out,fun e=>absurd e HLN.out,BL2.out⟩
        case measure=>simp[intOf];omega
       | false =>
        have HL4:Hid (L2++((Mk.flat kk++[⟨3,n,[],[]⟩])++Mk.flat (f.drop (k + 1)))=Mk.flat f):=by show _=_;have h:=HL3.out;simpa using h
        have hl4:L2.length + ((Mk.flat kk).length + 1)≤2 * f.bulk:=by
         have h:=hl3;simp only [Bool.false_eq_true,if_false,List.length_append,List.length_cons,List.length_nil] at h;omega
        go_wp2_with fail;refine HEM.out.mono ?_;rintro e w5 ⟨rfl,hw5⟩;subst w5;clear HEM HL3 hl3;go_upto_region 9 with fail;have HTK:=Ld (HTC.out (.slice aok kk.len capk) K wb HVK2.out (fun b q=>Nat.lt_of_lt_of_le (hK b q) hszb))
        go_cut [3] (fun u wx=>∃ L7 xs7 ao7 cap7,u=.slice ao7 L7.length cap7∧L7=L2++Mk.flat kk∧Hid (OwnT wx w.heap.size u L7 xs7)∧Hid (Below w.heap.size w wx)∧Hid (wx.heap[M]? = wb.heap[M]?))
        case first =>
         clear HL4 m0 hk hdb hlen hlt hatl HTC HVK2 hal9;go_wp2_with fail;refine HTK.out.mono ?_;rintro e w6 ⟨v6,xs6,rfl,ot6,hnil6,hb6⟩;have OT6:=Ld ot6;have OT26:=Ld (OT2.out.below hb6);have HM6:Hid (w6.heap[M]? = wb.heap[M]?):=hb6.block M hMb;have BL6:=Ld (BL2.out.trans (hb6.mono hszb));have HB6:=Ld hb6;have hsz6:=BL6.out.size;have HNIL:=Ld hnil6;clear ot6 hb6 hnil6 HTK m3
         rcases Nat.eq_zero_or_pos (Mk.flat kk).length with h0 | h0
         ·have hfk:Mk.flat kk=[]:=List.eq_nil_of_length_eq_zero h0
          have hv6:=HNIL.out hfk;subst hv6;have HE:Hid (OwnT w6 w.heap.size (.slice ao2 L2.length cap2) (L2++Mk.flat kk) xs2):=by show OwnT _ _ _ _ _;rw[hfk,List.append_nil];exact OT26.out
          have HE2:Hid (L2.length=(L2++Mk.flat kk).length):=by show _=_;rw[hfk,List.append_nil]
          clear hfk;go_wp2_with (at_builtin;refine wpList_append_own_none rfl _ _ 27 rfl w.heap.size 52 i0 4 underlying27 hi (.slice ao2 L2.length cap2) L2.length xs2 rfl OT26.out.own rfl ?_);go_wp2_with fail;go_meet
          case rel=>exact⟨L2++Mk.flat kk,xs2,ao2,cap2,by rw[← HE2.out],rfl,HE.out,BL6.out,HM6.out⟩
         ·rcases OT6.out.own.2 with ⟨hv,hn0⟩ | ⟨g6,cap6,cur6,hv,_⟩
          ·omega
          ·subst hv
           have HCE:=Ld (OT6.out.own.cells (g:=g6) rfl);have hl6:xs6.length=(Mk.flat kk).length * 4:=OT6.out.own.1;have HZ:Hid (z0j w6 (KO w.heap.size w6 (.slice ao2 L2.length cap2)) (Mk.flat kk) xs6):=OT6.out.cells.frame (fun b q=>⟨⟨Nat.le_trans hszb q.1,q.2.1,fun e=>by have:=(OT2.out.own.lt b e).2;have:=q.1;omega⟩,rfl⟩);go_wp2_with (at_builtin;refine Q9 rfl _ _ 27 rfl w.heap.size 52 i0 (.agg #[.int .i64 0,.string ⟨#[]⟩,.slice none 0 0,.string ⟨#[]⟩]) 4 64 underlying27 hi hz0 hz1 hz2 rfl (by decide) _ _ _ rfl OT26.out.own ⟨g6,0,none⟩ (Mk.flat kk).length cap6 xs6 rfl hl6 HCE.out OT6.out.cells.one h0 (by unfold maxLen;omega) (by omega) (by omega) ?_);intro v9 w9 hown9 hg9 hf9;obtain⟨ao9,cap9,rfl⟩:=Y1 hown9;have OT9:=Ld (OT26.out.more (Below.refl _ _) hown9 hg9 hf9 HZ.out);have BL9:=Ld (BL6.out.grown hg9 (by omega) (fun q hq=>(OT26.out.own.lt q hq).1));have HM9:Hid (w9.heap[M]? = wb.heap[M]?):=(hg9.block M (Nat.lt_of_lt_of_le hMb HB6.out.size) (fun e=>HN2.out M e.symm rfl)).trans HM6.out;clear hown9 hg9 hf9 hi hz0 hz1 hz2 HCE HZ OT6 OT26 OT2;go_wp2_with fail;go_meet
           case rel=>exact⟨L2++Mk.flat kk,_,ao9,cap9,by rw[List.length_append],rfl,OT9.out,BL9.out,HM9.out⟩
        case rest =>
         obtain⟨L7,xs7,ao7,cap7,rfl,hL7,OT7,BL7,HM7⟩:=hcut;obtain⟨wd,hwd⟩:∃ x,x=wc:=⟨_,rfl⟩;subst hwd;have d0:wd.cell? ⟨M,0,none⟩=some (.string (st n)):=(cell_of_block HM7.out _).trans m0;have hl7:L7.length + 1≤2 * f.bulk:=by rw[hL7,List.length_append];omega
         have HL5:Hid ((L7++[⟨3,n,[],[]⟩])++Mk.flat (f.drop (k + 1))=Mk.flat f):=by show _=_;rw[hL7,← HL4.out];simp
         have hsz7:=BL7.out.size;clear hL7 HL4 hl4 HTK HTC HVK2 OT2 m0 m3;have ow:=X8 OT7.out.own ((Ap.refl (fun _=>False) wd).alloc (.cells #[.int .i64 3,.string (st n),.slice none 0 0,.string ⟨#[]⟩] 52)) (fun _ _ q=>q);have hal:=(Below.refl wd.heap.size wd).alloc (Lr) (.cells #[.int .i64 3,.string (st n),.slice none 0 0,.string ⟨#[]⟩] 52);go_wp2_with (at_builtin;refine Q9 rfl _ _ 27 rfl w.heap.size 52 i0 (.agg #[.int .i64 0,.string ⟨#[]⟩,.slice none 0 0,.string ⟨#[]⟩]) 4 64 underlying27 hi hz0 hz1 hz2 rfl (by decide) _ _ _ rfl ow ⟨wd.heap.size,0,none⟩ 1 1 [.int .i64 3,.string (st n),.slice none 0 0,.string ⟨#[]⟩] rfl rfl (Y9 wd _ _) (by intro u hu;simp at hu;rcases hu with rfl | rfl | rfl | rfl <;> rfl) (by decide) (by unfold maxLen;omega) (by omega) (by simp;omega) ?_);intro v9 w9 hown9 hg9 hf9;have OT9:=Ld (OT7.out.more (l2:=[⟨3,n,[],[]⟩]) hal hown9 hg9 (by rw[World.size_alloc];exact hf9) ⟨.slice none 0 0,[],rfl,AtsV.nil _ _,rfl⟩);have BL9:=Ld ((BL7.out.trans (hal.mono hsz7)).grown hg9 (by simp;omega) (fun q hq=>(OT7.out.own.lt q hq).1));clear hown9 hg9 hf9 hal ow hi hz0 hz1 hz2 d0;go_wp2_with fail;go_roundw
         case rel=>exact⟨k + 1,_,_,by omega,by go_num,HL5.out,OT9.out,fun e=>by simp at e,BL9.out⟩
         case measure=>simp[intOf];omega
    ·have hke:k=f.len:=by omega
     rw[hke,Mk.Fo.z2v] at HL;have HL2:Hid (L=Mk.flat f):=by have h:=HL.out;rwa [show Mk.flat .nil=[] from rfl,List.append_nil] at h
     clear HL HAT;go_wp2_with fail;go_ret;exact⟨_,xs,rfl,by rw[← HL2.out];exact OT.out,by rw[← HL2.out];exact HNL.out,BL.out⟩
  ·subst hnil
   subst hv1;clear HAT hv;go_enter func42,ntmps42;go_wp2_with fail
   go_loopw [3,8] (fun u i wr=>u=.slice none 0 0∧i=.int .i64 0∧wr=w) (fun _ _ _=>0)
   case atStart=>exact⟨rfl,rfl,rfl⟩
   case round =>
    obtain⟨rfl,rfl,rfl⟩:=hrel;go_wp2_with fail;go_ret;exact⟨_,[],rfl,⟨World.ownsRow_nil _ _ _ _,rfl⟩,fun _=>rfl,Below.refl _ _⟩
end Go.Proofs.YtagleefekmdldaaGreatDoor
