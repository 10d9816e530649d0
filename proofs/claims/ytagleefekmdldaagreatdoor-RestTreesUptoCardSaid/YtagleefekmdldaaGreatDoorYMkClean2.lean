/- Contract of the program's method attrs of a cleaner: the attributes that stay. Condition: at most 33554432 attributes and letters. -/
import Derived.Test.YtagleefekmdldaaGreatDoorYMkClean1
import Derived.Deep.RegionWith
import Derived.Test.YtagleefekmdldaaGreatDoorYMkTree2
set_option linter.unusedVariables false
set_option linter.unusedSimpArgs false
set_option maxHeartbeats 8000000
set_option maxRecDepth 100000
namespace Go.Proofs.YtagleefekmdldaaGreatDoor
open Go.Proofs.Tryz Go.RowKit
theorem join_len_le (u:Mg.U):(Mg.join u).length≤u.sch.length + u.au.length + u.pa.length + u.qu.length + u.fr.length + 5:=by
 unfold Mg.join;simp only [List.length_append];have h1:∀ (b:Bool) (x:List UInt8),(if b then x else []).length≤x.length:=by intro b x;cases b <;> simp
 have a1:=h1 u.hs (u.sch++[58]);have a2:=h1 u.ha ([47,47]++u.au);have a3:=h1 u.hq ([63]++u.qu);have a4:=h1 u.hf ([35]++u.fr);simp only [List.length_append,List.length_cons,List.length_nil] at a1 a2 a3 a4 ⊢;omega
theorem j5d (base s:List UInt8):(Mk.light base s).length≤s.length + 50000:=by
 unfold Mk.light
 split
 ·omega
 ·rename_i h
  cases hr:Mg.res base s with
  | none=>simp only;omega
  | some t =>
   simp only;unfold Mg.res at hr;simp only at hr
   split at hr
   ·injection hr with hr
    rw[← hr,← rU_res];obtain⟨b1,b2,b3,b4,b5⟩:=z6l base;obtain⟨s1,s2,s3,s4,s5⟩:=z6l s;obtain⟨r1,r2,r3,r4⟩:=rU2_le (Mg.split base) (Mg.split s);have r5:=q9k (Mg.split base) (Mg.split s);have r6:=Mg.q42 (z3i (Mg.split base) (Mg.split s));refine Nat.le_trans (join_len_le _) ?_;simp only;omega
   ·cases hr
theorem q3x (base e:List UInt8) (l:List Mk.At) (k:Nat) (h:k < l.length):Mk.Q5 base e (l.take (k + 1))=Mk.Q5 base e (l.take k)++Mk.z2m base e l[k]:=by
 unfold Mk.Q5;rw[List.take_succ_eq_append_getElem h,List.flatMap_append];simp
theorem j0t (base e:List UInt8) (a:Mk.At):(Mk.z2m base e a).length≤1:=by
 unfold Mk.z2m
 split
 ·simp
 split
 ·split <;> simp
 ·simp
theorem q0u (base e:List UInt8) (l:List Mk.At):(Mk.Q5 base e l).length≤l.length:=by
 induction l with
 | nil=>exact Lr
 | cons a t ih =>
  have:=j0t base e a;show (Mk.z2m base e a++Mk.Q5 base e t).length≤t.length + 1;rw[List.length_append];omega
theorem cl_attrs (base n t:List UInt8) (a:List Mk.At) (va vk:Value) (kl:Nat) (ck:Nat) (aok:Option Addr) (hvk:vk=.slice aok kl ck) (C:Nat) (K:Nat→Prop) (w:World) (hC:C < w.heap.size) (hCc:w.cell? ⟨C,0,none⟩=some (.string (st base))) (hva:AtsV w K va a) (hK:∀ b,K b→b < w.heap.size) (hl:Mk.Fo.atB a≤33554432) :
  Calls prog 125 #[.pointer (some ⟨C,0,none⟩),z0d n va t vk] w fun e w'=>∃ v,e=.returned v∧w'.ownsRow w.heap.size 73 2 v (Mk.Q5 base n a).length (Z5 (Mk.Q5 base n a))∧Below w.heap.size w w':=by
 subst hvk;have hll:=Mk.z1l a;obtain⟨b,o,cap,hKb,hv1,hcl⟩:=hva.at_
 have HC:=Ld hcl;clear hcl;have hst:∀ l:List UInt8,(st l).toList=l:=fun l=>Lib.toList_data _
 rcases hv1 with hv1 | ⟨aoz,hv1,hl0⟩
 ·subst hv1
  unfold z0d;have hal0:=(Below.refl w.heap.size w).alloc (Lr) (.cells #[.string (st n),.slice (some ⟨b,o,none⟩) a.length cap,.string (st t),.slice aok kl ck] 38);have BL0:=Ld hal0;have NB:=Ld (Blk.new w 38 #[.string (st n),.slice (some ⟨b,o,none⟩) a.length cap,.string (st t),.slice aok kl ck]);clear hal0;go_enter func125,ntmps125;go_wp2_with fail;generalize hw0:w.alloc (.cells #[.string (st n),.slice (some ⟨b,o,none⟩) a.length cap,.string (st t),.slice aok kl ck] 38)=w0 at BL0 NB ⊢;clear hw0
  go_loopw [5,11] (fun v i wr=>∃ k:Nat,k≤a.length∧i=.int .i64 k∧Hid (wr.ownsRow w0.heap.size 73 2 v (Mk.Q5 base n (a.take k)).length (Z5 (Mk.Q5 base n (a.take k))))∧Hid (Below w0.heap.size w0 wr)) (fun _ i _=>a.length - (intOf i).toNat)
  case atStart=>exact⟨0,Nat.zero_le _,rfl,World.ownsRow_nil _ _ _ _,Below.refl _ _⟩
  case round =>
   obtain⟨k,hk,rfl,OW,BL⟩:=hrel;have hsz:=BL.out.size;have hlen:=q0u base n (a.take k);rw[List.length_take] at hlen;have hBw:=BL0.out.trans (BL.out.mono BL0.out.size)
   by_cases hlt:k < a.length
   ·have hb:b < w.heap.size:=hK b (hKb (by intro e;subst e;simp at hlt))
    obtain⟨c0,c1⟩:=HC.out k hlt;rw[← hBw.cell (p:=⟨b,_,none⟩) hb] at c0 c1;have hmem:=Mk.q0k (List.getElem_mem hlt);have HT:=Ld (q3x base n a k hlt);generalize a[k]=x at c0 c1 HT hmem;have hNB:w.heap.size < w0.heap.size:=Blk.lt NB.out;have hal:=(Below.refl wr.heap.size wr).alloc (Lr) (.cells #[.string (st x.n),.string (st x.v)] 73);have PB1:=Ld (Blk.new wr 73 #[.string (st x.n),.string (st x.v)]);have BL1:=Ld (BL.out.trans (hal.mono hsz));have OW1:=Ld (X8 OW.out (Ap.of_below (S:=fun _=>False) hal) (fun _ _ q=>q));have p0:(wr.alloc (.cells #[.string (st x.n),.string (st x.v)] 73)).cell? ⟨w.heap.size,0,none⟩=some (.string (st n)):=(BL1.out.cell (p:=⟨w.heap.size,0,none⟩) hNB).trans (Blk.cell NB.out 0);have HAT:=Ld (j3z n x (wr.alloc (.cells #[.string (st x.n),.string (st x.v)] 73)));unfold atV at HAT;obtain⟨bm,hbm⟩:∃ bm,Mk.mayB n x.n=bm:=⟨_,rfl⟩;rw[hbm] at HAT;have hca:Mk.z2m base n x=if !bm then [] else if Mk.z9s x.n then (if Mk.z07 (Mk.light base x.v) then [⟨x.n,Mk.light base x.v⟩] else []) else [x]:=by rw[← hbm];rfl
    have HPO:=Ld (show u5.ownBlock ≠ some wr.heap.size from fun e=>by have:=(OW.out.lt _ e).2;omega);clear hal hbm HC OW BL hBw
    cases bm with
    | false =>
     have HT2:Hid (Mk.Q5 base n (a.take (k + 1))=Mk.Q5 base n (a.take k)):=by show _=_;rw[HT.out,hca];simp
     clear HT hca;go_wp2_with fail;refine HAT.out.mono ?_;rintro e w2 ⟨rfl,hb2⟩;have BL2:=Ld (BL1.out.trans (hb2.mono BL1.out.size));have OW2:Hid (w2.ownsRow w0.heap.size 73 2 u5 (Mk.Q5 base n (a.take (k + 1))).length (Z5 (Mk.Q5 base n (a.take (k + 1))))):=by
      show World.ownsRow _ _ _ _ _ _ _;rw[HT2.out];exact X8 OW1.out (Ap.of_below (S:=fun _=>False) hb2) (fun _ _ q=>q)
     clear hb2 HAT;go_wp2_with fail;go_roundw
     case rel=>exact⟨k + 1,by omega,by go_num,OW2,BL2⟩
     case measure=>simp[intOf];omega
    | true =>
     have hca:Mk.z2m base n x=if Mk.z9s x.n then (if Mk.z07 (Mk.light base x.v) then [⟨x.n,Mk.light base x.v⟩] else []) else [x]:=by rw[hca];simp
     go_wp2_with fail;refine HAT.out.mono ?_;rintro e w2 ⟨rfl,hb2⟩;have BL2:=Ld (BL1.out.trans (hb2.mono BL1.out.size));have OW2:=Ld (X8 OW1.out (Ap.of_below (S:=fun _=>False) hb2) (fun _ _ q=>q));have PB2:=Ld (Blk.below PB1.out hb2 (Blk.lt PB1.out));clear hb2 HAT BL1 OW1 PB1 p0;have q0:w2.cell? ⟨wr.heap.size,0,none⟩=some (.string (st x.n)):=Blk.cell PB2.out 0;have hlk:=fun W=>j4a x.n W
     obtain⟨bk,hbk⟩:∃ bk,Mk.z9s x.n=bk:=⟨_,rfl⟩;rw[hbk] at hlk hca;have HLK:=Ld hlk;clear hlk hbk
     cases bk with
     | false =>
      have HT2:Hid (Mk.Q5 base n (a.take (k + 1))=Mk.Q5 base n (a.take k)++[⟨x.n,x.v⟩]):=by show _=_;rw[HT.out,hca];rfl
      clear HT hca;go_wp2_with fail;refine(HLK.out _).mono ?_;rintro e w3 ⟨rfl,hw3⟩;subst hw3;clear q0 HLK;have cw30:w3.cell? ⟨wr.heap.size,0,none⟩=some (.string (st x.n)):=Blk.cell PB2.out 0;have cw31:w3.cell? ⟨wr.heap.size,1,none⟩=some (.string (st x.v)):=Blk.cell PB2.out 1;obtain⟨i0,hi,hz0,hz1,hz2⟩:=info_parts Tryz.infoAttr;have ow10:=X8 OW2.out ((Ap.refl (fun _=>False) w3).alloc (.cells #[.string (st x.n),.string (st x.v)] 73)) (fun _ _ q=>q);have hsz9:=BL2.out.size;go_wp2_with (at_builtin;refine wpList_append_own _ rfl _ _ 36 rfl w0.heap.size 73 i0 (.agg #[.string ⟨#[]⟩,.string ⟨#[]⟩]) 2 32 underlying36 hi hz0 hz1 hz2 rfl (by decide) _ _ _ rfl ow10 ⟨w3.heap.size,0,none⟩ 1 1 [.string (st x.n),.string (st x.v)] rfl rfl (Y9 _ _ _) (by intro u hu;simp at hu;rcases hu with rfl | rfl <;> rfl) (by unfold maxLen;omega) (by omega) (by simp;omega) ?_);intro v' w11 hown' hgrow _;have OWN:Hid (w11.ownsRow w0.heap.size 73 2 v' (Mk.Q5 base n (a.take (k + 1))).length (Z5 (Mk.Q5 base n (a.take (k + 1))))):=by
       show World.ownsRow _ _ _ _ _ _ _;rw[HT2.out,List.length_append,show Z5 (Mk.Q5 base n (a.take k)++[(⟨x.n,x.v⟩:Mk.At)])=Z5 (Mk.Q5 base n (a.take k))++[.string (st x.n),.string (st x.v)] by simp[Z5]];exact hown'
      have BLN:=Ld ((BL2.out.alloc hsz9 (.cells #[.string (st x.n),.string (st x.v)] 73)).grown hgrow (by simp;omega) (fun k hk=>(OW2.out.lt k hk).1));clear hown' hgrow ow10;go_wp2_with fail;go_roundw
      case rel=>exact⟨k + 1,by omega,by go_num,OWN,BLN⟩
      case measure=>simp[intOf];omega
     | true =>
      have hca:Mk.z2m base n x=if Mk.z07 (Mk.light base x.v) then [⟨x.n,Mk.light base x.v⟩] else []:=by rw[hca];simp
      have hll2:=j5d base x.v;go_wp2_with fail;refine(HLK.out _).mono ?_;rintro e w3 ⟨rfl,hw3⟩;subst hw3;have q1:w3.cell? ⟨wr.heap.size,1,none⟩=some (.string (st x.v)):=Blk.cell PB2.out 1;have cb:w3.cell? ⟨C,0,none⟩=some (.string (st base)):=((BL0.out.trans (BL2.out.mono BL0.out.size)).cell (p:=⟨C,0,none⟩) hC).trans hCc;have HL:=Ld (fun W=>j6x base x.v W);generalize Mk.light base x.v=lv at hca hll2 HL;have hP3:wr.heap.size < w3.heap.size:=Blk.lt PB2.out;clear q0 HLK;go_upto_region 7 with fail
      go_region_with (go_at_call 149;refine(HL.out _).mono ?_;rintro e w7 ⟨rfl,hb7⟩;have PB7:=Ld (Blk.below (Blk.drew PB2.out) hb7 hP3);have d1:w7.cell? ⟨wr.heap.size,1,none⟩=some (.string (st x.v)):=Blk.cell PB7.out 1;have g1:w7.frozen? ⟨wr.heap.size,1,none⟩=false:=Blk.frozen PB7.out 1)
      all_goals
       have OW8:=Ld (ownsRow_setCell_other (X8 OW2.out (((Ap.refl (fun _=>False) w3).drew).trans (Ap.of_below hb7)) (fun _ _ q=>q)) (a:=⟨wr.heap.size,1,none⟩) HPO.out (.string (st lv)));have PB8:Hid (Blk (w7.setCell ⟨wr.heap.size,1,none⟩ (.string (st lv))) wr.heap.size 73 #[.string (st x.n),.string (st lv)]):=Blk.set_ PB7.out 1 (.string (st lv));have BL8:=Ld ((BL2.out.drew.trans (hb7.mono BL2.out.size)).setCell (p:=⟨wr.heap.size,1,none⟩) hsz (.string (st lv)));generalize w7.setCell ⟨wr.heap.size,1,none⟩ (.string (st lv))=w8 at OW8 PB8 BL8 ⊢;clear HL hb7 PB7 d1 g1 OW2 PB2 BL2 q1 cb;have c81:w8.cell? ⟨wr.heap.size,1,none⟩=some (.string (st lv)):=Blk.cell PB8.out 1;have his:=url_Is (st lv) w8 (by rw[y9];omega);rw[z0b] at his;have hgl:Mk.z07 lv=(Mg.isSafe lv && decide (lv.length≤3000)):=rfl;generalize Mg.isSafe lv=bs at his hgl;have HIS:=Ld his;clear his
       cases bs with
       | false =>
        have HT2:Hid (Mk.Q5 base n (a.take (k + 1))=Mk.Q5 base n (a.take k)):=by show _=_;rw[HT.out,hca,hgl];simp
        clear HT hca hgl;go_wp2_with fail;refine HIS.out.mono ?_;rintro e w9 ⟨rfl,hb9⟩;have BL9:=Ld (BL8.out.trans (hb9.mono BL8.out.size));have OW9:Hid (w9.ownsRow w0.heap.size 73 2 u5 (Mk.Q5 base n (a.take (k + 1))).length (Z5 (Mk.Q5 base n (a.take (k + 1))))):=by
         show World.ownsRow _ _ _ _ _ _ _;rw[HT2.out];exact X8 OW8.out (Ap.of_below (S:=fun _=>False) hb9) (fun _ _ q=>q)
        clear hb9 HIS;go_wp2_with fail;go_roundw
        case rel=>exact⟨k + 1,by omega,by go_num,OW9,BL9⟩
        case measure=>simp[intOf];omega
       | true =>
        by_cases h3:lv.length≤3000
        ·have HT2:Hid (Mk.Q5 base n (a.take (k + 1))=Mk.Q5 base n (a.take k)++[⟨x.n,lv⟩]):=by show _=_;rw[HT.out,hca,hgl,decide_eq_true h3];simp
         have hsz3:¬ 3000 < (st lv).size:=by rw[y9];omega
         clear HT hca hgl;go_wp2_with fail;refine HIS.out.mono ?_;rintro e w9 ⟨rfl,hb9⟩;have BL9:=Ld (BL8.out.trans (hb9.mono BL8.out.size));have OW9:=Ld (X8 OW8.out (Ap.of_below (S:=fun _=>False) hb9) (fun _ _ q=>q));have PB9:=Ld (Blk.below PB8.out hb9 (Blk.lt PB8.out));have d91:w9.cell? ⟨wr.heap.size,1,none⟩=some (.string (st lv)):=Blk.cell PB9.out 1;clear hb9 HIS c81;have cw90:w9.cell? ⟨wr.heap.size,0,none⟩=some (.string (st x.n)):=Blk.cell PB9.out 0;have cw91:w9.cell? ⟨wr.heap.size,1,none⟩=some (.string (st lv)):=Blk.cell PB9.out 1;obtain⟨i0,hi,hz0,hz1,hz2⟩:=info_parts Tryz.infoAttr;have ow10:=X8 OW9.out ((Ap.refl (fun _=>False) w9).alloc (.cells #[.string (st x.n),.string (st lv)] 73)) (fun _ _ q=>q);have hsz9:=BL9.out.size;go_wp2_with (at_builtin;refine wpList_append_own _ rfl _ _ 36 rfl w0.heap.size 73 i0 (.agg #[.string ⟨#[]⟩,.string ⟨#[]⟩]) 2 32 underlying36 hi hz0 hz1 hz2 rfl (by decide) _ _ _ rfl ow10 ⟨w9.heap.size,0,none⟩ 1 1 [.string (st x.n),.string (st lv)] rfl rfl (Y9 _ _ _) (by intro u hu;simp at hu;rcases hu with rfl | rfl <;> rfl) (by unfold maxLen;omega) (by omega) (by simp;omega) ?_);intro v' w11 hown' hgrow _;have OWN:Hid (w11.ownsRow w0.heap.size 73 2 v' (Mk.Q5 base n (a.take (k + 1))).length (Z5 (Mk.Q5 base n (a.take (k + 1))))):=by
          show World.ownsRow _ _ _ _ _ _ _;rw[HT2.out,List.length_append,show Z5 (Mk.Q5 base n (a.take k)++[(⟨x.n,lv⟩:Mk.At)])=Z5 (Mk.Q5 base n (a.take k))++[.string (st x.n),.string (st lv)] by simp[Z5]];exact hown'
         have BLN:=Ld ((BL9.out.alloc hsz9 (.cells #[.string (st x.n),.string (st lv)] 73)).grown hgrow (by simp;omega) (fun k hk=>(OW9.out.lt k hk).1));clear hown' hgrow ow10;go_wp2_with fail;go_roundw
         case rel=>exact⟨k + 1,by omega,by go_num,OWN,BLN⟩
         case measure=>simp[intOf];omega
        ·have HT2:Hid (Mk.Q5 base n (a.take (k + 1))=Mk.Q5 base n (a.take k)):=by show _=_;rw[HT.out,hca,hgl,decide_eq_false h3];simp
         have hsz3:3000 < (st lv).size:=by rw[y9];omega
         clear HT hca hgl;go_wp2_with fail;refine HIS.out.mono ?_;rintro e w9 ⟨rfl,hb9⟩;have BL9:=Ld (BL8.out.trans (hb9.mono BL8.out.size));have OW9:Hid (w9.ownsRow w0.heap.size 73 2 u5 (Mk.Q5 base n (a.take (k + 1))).length (Z5 (Mk.Q5 base n (a.take (k + 1))))):=by
          show World.ownsRow _ _ _ _ _ _ _;rw[HT2.out];exact X8 OW8.out (Ap.of_below (S:=fun _=>False) hb9) (fun _ _ q=>q)
         have d91:w9.cell? ⟨wr.heap.size,1,none⟩=some (.string (st lv)):=Blk.cell (Blk.below PB8.out hb9 (Blk.lt PB8.out)) 1;clear hb9 HIS c81;go_wp2_with fail;go_roundw
         case rel=>exact⟨k + 1,by omega,by go_num,OW9,BL9⟩
         case measure=>simp[intOf];omega
   ·have hke:k=a.length:=by omega
    have OWN:Hid (wr.ownsRow w0.heap.size 73 2 u5 (Mk.Q5 base n a).length (Z5 (Mk.Q5 base n a))):=by
     have:=OW.out;rw[hke,List.take_length] at this;exact this
    have BLF:=Ld hBw;clear OW HC;go_wp2_with fail;go_ret;exact⟨_,rfl,⟨OWN.out.1,OWN.out.2.imp id (fun ⟨g,c,r,h1,h2,h3⟩=>⟨g,c,r,h1,Nat.le_trans BL0.out.size h2,h3⟩)⟩,BLF.out⟩
 ·subst hl0
  subst hv1;unfold z0d;have hal0:=(Below.refl w.heap.size w).alloc (Lr) (.cells #[.string (st n),.slice aoz 0 cap,.string (st t),.slice aok kl ck] 38);clear HC hK;go_enter func125,ntmps125;go_wp2_with fail;generalize w.alloc (.cells #[.string (st n),.slice aoz 0 cap,.string (st t),.slice aok kl ck] 38)=w0 at hal0 ⊢
  go_loopw [5,11] (fun v i wr=>v=.slice none 0 0∧i=.int .i64 0∧wr=w0) (fun _ _ _=>0)
  case atStart=>exact⟨rfl,rfl,rfl⟩
  case round =>
   obtain⟨rfl,rfl,rfl⟩:=hrel;go_wp2_with fail;go_ret;exact⟨_,rfl,World.ownsRow_nil _ _ _ _,hal0⟩
end Go.Proofs.YtagleefekmdldaaGreatDoor
namespace Mk
namespace Fo
def z5m:Fo→Bs
 | nil=>[]
 | node n _ _ _ nil=>n
 | node _ _ _ _ (node m b u j r)=>z5m (node m b u j r)
def lastT:Fo→Bs
 | nil=>[]
 | node _ _ t _ nil=>t
 | node _ _ _ _ (node m b u j r)=>lastT (node m b u j r)
def merges (f:Fo) (n:Bs):Bool:=decide (n=[]) && decide (f ≠ nil) && decide (z5m f=[])
theorem Y5 (f:Fo) (n:Bs):merges f n=true↔n=[]∧f ≠ nil∧z5m f=[]:=by
 unfold merges;rw[Bool.and_eq_true,Bool.and_eq_true,decide_eq_true_iff,decide_eq_true_iff,decide_eq_true_iff];exact and_assoc
theorem z4z (n n':Bs) (a':List At) (t':Bs) (k':Fo) (m:Bs) (b:List At) (u:Bs) (j r:Fo):merges (node n' a' t' k' (node m b u j r)) n=merges (node m b u j r) n:=by
 rw[Bool.eq_iff_iff,Y5,Y5];constructor
 ·rintro ⟨h1,_,h3⟩;exact⟨h1,(by intro e;cases e),h3⟩
 ·rintro ⟨h1,_,h3⟩;exact⟨h1,(by intro e;cases e),h3⟩
theorem z4d (n:Bs):merges nil n=false:=by
 rw[Bool.eq_false_iff];intro h;exact((Y5 _ _).1 h).2.1 rfl
theorem z6w:∀ (f:Fo) (n:Bs) (a:List At) (t:Bs) (k:Fo),merges f n=true→(snoc n a t k f).len=f.len
 | nil,n,a,t,k,h=>by rw[z4d] at h;cases h
 | node n' a' t' k' nil,n,a,t,k,h=>by
  have h1:n=[]∧n'=[]:=⟨((Y5 _ _).1 h).1,((Y5 _ _).1 h).2.2⟩;unfold snoc;rw[if_pos h1];rfl
 | node n' a' t' k' (node m b u j r),n,a,t,k,h=>by
  have:=z6w (node m b u j r) n a t k (by rwa [z4z] at h);show (snoc n a t k (node m b u j r)).len + 1=(node m b u j r).len + 1;rw[this]
theorem z5d:∀ (f:Fo) (n:Bs) (a:List At) (t:Bs) (k:Fo),merges f n=false→(snoc n a t k f).len=f.len + 1
 | nil,n,a,t,k,_=>rfl
 | node n' a' t' k' nil,n,a,t,k,h=>by
  have h1:¬ (n=[]∧n'=[]):=by
   rintro ⟨rfl,rfl⟩;rw[(Y5 _ _).2 ⟨rfl,(by intro e;cases e),rfl⟩] at h;cases h
  unfold snoc;rw[if_neg h1];rfl
 | node n' a' t' k' (node m b u j r),n,a,t,k,h=>by
  have:=z5d (node m b u j r) n a t k (by rwa [z4z] at h);show (snoc n a t k (node m b u j r)).len + 1=(node m b u j r).len + 1 + 1;rw[this]
theorem z4g:∀ (f:Fo) (n:Bs) (a:List At) (t:Bs) (k:Fo),bulk (snoc n a t k f)≤bulk f + (1 + n.length + t.length + atB a + bulk k)
 | nil,n,a,t,k=>by show 1 + n.length + t.length + atB a + bulk k + 0≤0 + (1 + n.length + t.length + atB a + bulk k);omega
 | node n' a' t' k' nil,n,a,t,k=>by
  unfold snoc
  split
  ·show 1 + n'.length + (t'++t).length + atB a' + bulk k' + 0≤(1 + n'.length + t'.length + atB a' + bulk k' + 0) + (1 + n.length + t.length + atB a + bulk k)
   rw[List.length_append];omega
  ·show 1 + n'.length + t'.length + atB a' + bulk k' + (1 + n.length + t.length + atB a + bulk k + 0)≤(1 + n'.length + t'.length + atB a' + bulk k' + 0) + (1 + n.length + t.length + atB a + bulk k)
   omega
 | node n' a' t' k' (node m b u j r),n,a,t,k=>by
  have:=z4g (node m b u j r) n a t k;show 1 + n'.length + t'.length + atB a' + bulk k' + bulk (snoc n a t k (node m b u j r))≤(1 + n'.length + t'.length + atB a' + bulk k' + bulk (node m b u j r)) + (1 + n.length + t.length + atB a + bulk k);omega
theorem z8n:∀ (g f:Fo),bulk (joins f g)≤bulk f + bulk g
 | nil,f=>Lr
 | node n a t k r,f=>by
  have h1:=z8n r (snoc n a t k f);have h2:=z4g f n a t k;show bulk (joins (snoc n a t k f) r)≤bulk f + (1 + n.length + t.length + atB a + bulk k + bulk r);omega
theorem z6h:∀ f:Fo,(lastT f).length≤bulk f
 | nil=>Lr
 | node n a t k nil=>by show t.length≤1 + n.length + t.length + atB a + bulk k + 0;omega
 | node n a t k (node m b u j r)=>by
  have:=z6h (node m b u j r);show (lastT (node m b u j r)).length≤1 + n.length + t.length + atB a + bulk k + bulk (node m b u j r);omega
end Fo
end Mk
namespace Go.Proofs.YtagleefekmdldaaGreatDoor
open Go.RowKit
theorem Y0.push {w:World} {K:Nat→Prop} {n:List UInt8} {a:List Mk.At} {t:List UInt8} {k:Mk.Fo} {va:Value} {ao:Option Addr} {cap:Nat} {zs:List Value} (h2:AtsV w K va a) (h3:z1v w K ao zs) (h4:k.len≤maxLen) (h5:Y0 w K k zs):∀ (f:Mk.Fo) (xs:List Value),Y0 w K f xs→f.merges n=false→Y0 w K (Mk.Fo.snoc n a t k f) (xs++[.string (st n),va,.string (st t),.slice ao k.len cap])
 | .nil,xs,h,_=>by
  have h:xs=[]:=h;subst h;exact⟨va,ao,cap,zs,[],rfl,h2,h3,h4,h5,rfl⟩
 | .node n' a' t' k' .nil,xs,h,hm=>by
  obtain⟨va',ao',cap',zs',ys,g1,g2,g3,g4,g5,g6⟩:=h;have g6:ys=[]:=g6;subst g6;have h1:¬ (n=[]∧n'=[]):=by
   rintro ⟨rfl,rfl⟩;rw[(Mk.Fo.Y5 _ _).2 ⟨rfl,(by intro e;cases e),rfl⟩] at hm;cases hm
  unfold Mk.Fo.snoc;rw[if_neg h1,g1];exact⟨va',ao',cap',zs',_,by simp only [List.append_nil],g2,g3,g4,g5,va,ao,cap,zs,[],rfl,h2,h3,h4,h5,rfl⟩
 | .node n' a' t' k' (.node m b u j r),xs,h,hm=>by
  obtain⟨va',ao',cap',zs',ys,g1,g2,g3,g4,g5,g6⟩:=h;have:=Y0.push (n:=n) (t:=t) (cap:=cap) h2 h3 h4 h5 (.node m b u j r) ys g6 (by rwa [Mk.Fo.z4z] at hm);rw[g1,List.append_assoc];exact⟨va',ao',cap',zs',_,rfl,g2,g3,g4,g5,this⟩
theorem Y0.merge {w:World} {K:Nat→Prop} {n:List UInt8} {a:List Mk.At} {t:List UInt8} {k:Mk.Fo}:∀ (f:Mk.Fo) (xs:List Value),Y0 w K f xs→f.merges n=true→Y0 w K (Mk.Fo.snoc n a t k f) (xs.set (4 * (f.len - 1) + 2) (.string (st (f.lastT++t))))
 | .nil,xs,h,hm=>by rw[Mk.Fo.z4d] at hm;cases hm
 | .node n' a' t' k' .nil,xs,h,hm=>by
  obtain⟨va',ao',cap',zs',ys,g1,g2,g3,g4,g5,g6⟩:=h;have h1:n=[]∧n'=[]:=⟨((Mk.Fo.Y5 _ _).1 hm).1,((Mk.Fo.Y5 _ _).1 hm).2.2⟩;unfold Mk.Fo.snoc;rw[if_pos h1,g1];exact⟨va',ao',cap',zs',ys,rfl,g2,g3,g4,g5,g6⟩
 | .node n' a' t' k' (.node m b u j r),xs,h,hm=>by
  obtain⟨va',ao',cap',zs',ys,g1,g2,g3,g4,g5,g6⟩:=h;have hh:=Y0.merge (n:=n) (a:=a) (t:=t) (k:=k) (.node m b u j r) ys g6 (by rwa [Mk.Fo.z4z] at hm);refine⟨va',ao',cap',zs',_,?_,g2,g3,g4,g5,hh⟩;rw[g1];have e:4 * ((Mk.Fo.node n' a' t' k' (.node m b u j r)).len - 1) + 2=4 + (4 * ((Mk.Fo.node m b u j r).len - 1) + 2):=by
   show 4 * (r.len + 1 + 1 - 1) + 2=4 + (4 * (r.len + 1 - 1) + 2);omega
  rw[e,List.set_append_right _ _ (by simp)];simp[Mk.Fo.lastT]
theorem Y0.last_ {w:World} {K:Nat→Prop}:∀ (f:Mk.Fo) (xs:List Value),Y0 w K f xs→f ≠ .nil→xs[4 * (f.len - 1)]? = some (.string (st f.z5m))∧xs[4 * (f.len - 1) + 2]? = some (.string (st f.lastT))
 | .nil,_,_,hn=>absurd rfl hn
 | .node n' a' t' k' .nil,xs,h,_=>by
  obtain⟨va',ao',cap',zs',ys,g1,_⟩:=h;rw[g1];exact⟨rfl,rfl⟩
 | .node n' a' t' k' (.node m b u j r),xs,h,_=>by
  obtain⟨va',ao',cap',zs',ys,g1,g2,g3,g4,g5,g6⟩:=h;obtain⟨h1,h2⟩:=Y0.last_ (.node m b u j r) ys g6 (by intro e;cases e);have e:(Mk.Fo.node n' a' t' k' (.node m b u j r)).len - 1=((Mk.Fo.node m b u j r).len - 1) + 1:=by
   show r.len + 1 + 1 - 1=(r.len + 1 - 1) + 1;omega
  rw[g1,e];constructor
  ·rw[show 4 * ((Mk.Fo.node m b u j r).len - 1 + 1)=4 * ((Mk.Fo.node m b u j r).len - 1) + 4 by omega,List.getElem?_append_right (by simp)]
   simpa [Mk.Fo.z5m] using h1
  ·rw[show 4 * ((Mk.Fo.node m b u j r).len - 1 + 1) + 2=4 * ((Mk.Fo.node m b u j r).len - 1) + 2 + 4 by omega,List.getElem?_append_right (by simp)]
   simpa [Mk.Fo.lastT] using h2
theorem z3t {w:World} {B size n:Nat} {e:TypeId} {v:Value} {xs:List Value} (h:w.ownsRow B e size v n xs) {g:Nat} (hg:v.ownBlock=some g) (i:Nat) (u:Value):(w.setCell ⟨g,i,none⟩ u).ownsRow B e size v n (xs.set i u):=by
 refine⟨by rw[List.length_set];exact h.1,?_⟩
 rcases h.2 with ⟨hv,_⟩ | ⟨g',cap,cur,hv,hb,hh,hnc,hcm,hcs,ht⟩
 ·rw[hv] at hg;cases hg
 ·rw[hv] at hg
  injection hg with hg;have hg:g'=g:=hg;subst hg;refine .inr ⟨g',cap,cur.setIfInBounds i u,hv,hb,?_,hnc,hcm,by simpa using hcs,?_⟩
  ·have:=Blk.set_ (w:=w) (g:=g') (t:=e) (cs:=cur) hh i u
   exact this
  ·rw[← ht,Array.toList_setIfInBounds,List.take_set]
structure OwnF (w:World) (B:Nat) (K:Nat→Prop) (v:Value) (f:Mk.Fo) (xs:List Value):Prop where
 own:w.ownsRow B 38 4 v f.len xs
 cells:Y0 w K f xs
 ne:∀ g,v.ownBlock=some g→¬ K g
 le:∀ b,K b→b < w.heap.size
theorem OwnF.frame {w w':World} {B:Nat} {K:Nat→Prop} {v:Value} {f:Mk.Fo} {xs:List Value} (h:OwnF w B K v f xs) (hs:w.heap.size≤w'.heap.size) (hk:∀ b,b < w.heap.size→(K b∨v.ownBlock=some b)→w'.heap[b]? = w.heap[b]?):OwnF w' B K v f xs:=by
 refine⟨⟨h.own.1,h.own.2.imp id ?_⟩,h.cells.frame fun b hb=>⟨hb,hk b (h.le b hb) (.inl hb)⟩,h.ne,fun b hb=>Nat.lt_of_lt_of_le (h.le b hb) hs⟩;rintro ⟨g,cap,cur,h1,h2,h3,h4⟩;have e:v.ownBlock=some g:=by rw[h1];rfl
 exact⟨g,cap,cur,h1,h2,(hk g (h.own.lt g e).2 (.inr e)).trans h3,h4⟩
theorem OwnF.foV {w:World} {B:Nat} {K K':Nat→Prop} {v:Value} {f:Mk.Fo} {xs:List Value} (h:OwnF w B K v f xs) (hK:∀ b,K b→K' b) (ho:∀ g,v.ownBlock=some g→K' g):FoV w K' v f:=by
 obtain⟨ao,cap,h1,h2,h3,h4⟩:=z1v.of_own h.own ho;exact⟨ao,cap,xs,h1,h2,h.cells.frame fun b hb=>⟨hK b hb,rfl⟩,h4⟩
end Go.Proofs.YtagleefekmdldaaGreatDoor
