/- Contract of the strict reader's Read. No condition. -/
import Derived.Test.YtjonkbdldebkiaaGreatDoorYWfD
import Derived.Test.YtjonkbdldebkiaaGreatDoorYWkL
import Derived.Test.YtjonkbdldebkiaaGreatDoorYWfJ
set_option linter.unusedVariables false
set_option linter.unusedSimpArgs false
set_option maxHeartbeats 16000000
set_option maxRecDepth 100000
namespace Go.Proofs.YtjonkbdldebkiaaGreatDoor
open Go.Proofs.Tryz Go.RowKit
theorem xm_Read (s:List UInt8) (w:World) (hg:Gl w) :
  Calls prog 57 #[.string (st s)] w fun e w'=>Below w.heap.size w w'∧∃ va vk,e=.returned (.tuple #[z05 (Fd.xmlM s).1.name va [] vk,.int .i64 (Fd.xmlM s).2])∧AtsV w' (Nw w w') va (Fd.xmlM s).1.ats∧FoV w' (Nw w w') vk (Fd.xmlM s).1.kids:=by
 have hz:(st s).size=s.length:=Z4 s;have hal:=(Below.refl w.heap.size w).alloc (Lr) (.cells #[.string ⟨#[]⟩,.slice none 0 0,.string ⟨#[]⟩,.slice none 0 0] 53);have hcb:=Blk.new w 53 #[.string ⟨#[]⟩,.slice none 0 0,.string ⟨#[]⟩,.slice none 0 0]
 by_cases h:3000 < s.length
 ·have HX:Hid (Fd.xmlM s=(⟨[],[],.nil⟩,2)):=by show _=_;rw[Fd.xmlM,if_pos h]
  have h2:3000 < (st s).size:=by omega
  have B3:=Ld hal;clear hz h hal hcb;go_enter func57,ntmps57;go_wp2_with fail;refine bodyPost_ret (v:=.tuple #[z05 [] (.slice none 0 0) [] (.slice none 0 0),.int .i64 2]) (by simp[results,results57,go_sem, *];rfl) rfl ?_;rw[HX.out];exact⟨B3.out,.slice none 0 0,.slice none 0 0,rfl,AtsV.nil _ _,⟨none,0,[],rfl,.inl rfl,rfl,Nat.zero_le _⟩⟩
 ·have HX:Hid (Fd.xmlM s=Fd.xmlR s):=by show _=_;rw[Fd.xmlM,if_neg h]
  have h2:¬ 3000 < (st s).size:=by omega
  have HA:=Ld (xm_All s (w.alloc (.cells #[.string ⟨#[]⟩,.slice none 0 0,.string ⟨#[]⟩,.slice none 0 0] 53)) (hg.alloc _) (by omega));have AL:=Ld hal;have CB:=Ld hcb;unfold z2v at HA;rw[← HX.out] at HA;generalize Fd.xmlM s=x at HA ⊢;clear hz h hal hcb hg HX;go_enter func57,ntmps57;go_wp2_with fail;refine HA.out.mono ?_;rintro e w2 ⟨hb,va,vk,rfl,hva,hvk⟩;clear HA;obtain⟨aoa,capa,hva1,_⟩:=id hva;subst hva1;obtain⟨aok,capk,xsk,hvk1,_⟩:=id hvk;subst hvk1;have hsz:=AL.out.size;have hNl:w.heap.size < (w.alloc (.cells #[.string ⟨#[]⟩,.slice none 0 0,.string ⟨#[]⟩,.slice none 0 0] 53)).heap.size:=by simp
  have NB:Blk w2 w.heap.size 53 #[.string ⟨#[]⟩,.slice none 0 0,.string ⟨#[]⟩,.slice none 0 0]:=(hb.block _ hNl).trans CB.out;have B2:=AL.out.trans (hb.mono hsz);have c0:w2.cell? ⟨w.heap.size,0,none⟩=some (.string ⟨#[]⟩):=Blk.cell NB 0;have c1:w2.cell? ⟨w.heap.size,1,none⟩=some (.slice none 0 0):=Blk.cell NB 1;have c2:w2.cell? ⟨w.heap.size,2,none⟩=some (.string ⟨#[]⟩):=Blk.cell NB 2;have c3:w2.cell? ⟨w.heap.size,3,none⟩=some (.slice none 0 0):=Blk.cell NB 3;have y:∀ i,w2.frozen? ⟨w.heap.size,i,none⟩=false:=Blk.frozen NB;have B3:Below w.heap.size w (ansW w2 w.heap.size (.string (st x.1.name)) (.slice aoa x.1.ats.length capa) (.string (st [])) (.slice aok x.1.kids.len capk)) :=
   (((B2.setCell (p:=⟨w.heap.size,0,none⟩) (Lr) _).setCell (p:=⟨w.heap.size,1,none⟩) (Lr) _).setCell (p:=⟨w.heap.size,2,none⟩) (Lr) _).setCell (p:=⟨w.heap.size,3,none⟩) (Lr) _
  have kp:∀ b,Nw (w.alloc (.cells #[.string ⟨#[]⟩,.slice none 0 0,.string ⟨#[]⟩,.slice none 0 0] 53)) w2 b→Nw w (ansW w2 w.heap.size (.string (st x.1.name)) (.slice aoa x.1.ats.length capa) (.string (st [])) (.slice aok x.1.kids.len capk)) b∧(ansW w2 w.heap.size (.string (st x.1.name)) (.slice aoa x.1.ats.length capa) (.string (st [])) (.slice aok x.1.kids.len capk)).heap[b]? = w2.heap[b]?:=by
   intro b hb;have hb1:=hb.1;have hb2:=hb.2;have hne:b ≠ w.heap.size:=by omega
   refine⟨⟨by omega,by simpa [ansW,World.setCell] using hb2⟩,?_⟩;unfold ansW;rw[Below.heap_setCell _ ⟨w.heap.size,3,none⟩ _ b hne,Below.heap_setCell _ ⟨w.heap.size,2,none⟩ _ b hne,Below.heap_setCell _ ⟨w.heap.size,1,none⟩ _ b hne,Below.heap_setCell _ ⟨w.heap.size,0,none⟩ _ b hne]
  have FIN:=Ld (And.intro B3 (And.intro (hva.frame kp) (hvk.frame kp)));unfold z05;clear hb hva hvk AL CB NB B2 B3 kp hNl hsz;go_wp2_with fail;refine bodyPost_ret (v:=.tuple #[z05 x.1.name (.slice aoa x.1.ats.length capa) [] (.slice aok x.1.kids.len capk),.int .i64 x.2]) (by simp[results,results57,go_sem, *];rfl) rfl ?_;exact⟨FIN.out.1,_,_,rfl,FIN.out.2.1,FIN.out.2.2⟩
end Go.Proofs.YtjonkbdldebkiaaGreatDoor
namespace Fd
open Mk
theorem putM_len (base:Bs) (l:List En) (x:En) (h:l.length≤12):(putM base l x).length≤12:=by
 unfold putM
 split
 ·exact h
 ·rename_i q
  have:¬ l.length=12:=fun e=>q (.inr (.inr (.inl e)))
  rw[List.length_append,List.length_singleton];omega
theorem j1t (base title:Bs) (E:Fo→En) (n:Bs) (a:List At) (t:Bs) (k r:Fo) (out:List En):z7h base title E (.node n a t k r) out=z7h base title E r (if n=title then putM base out (E k) else out):=rfl
theorem q8d:∀ (n:Nat) (s r:Bs) (u:Unit),z6b n s=.ok u r→r.length≤s.length
 | 0,s,r,u,h=>by rw[z6b] at h;injection h with _ h2;rw[h2];exact Lr
 | n + 1,s,r,u,h=>by
  rw[z6b] at h
  split at h
  ·have:=q8d n _ r u h
   omega
  ·cases ha:z1c s with
   | none=>rw[ha] at h;injection h with _ h2;rw[h2];exact Lr
   | some x =>
    rw[ha] at h
    cases x with
    | er e=>cases h
    | ok v z =>
     have h1:=z3n ha;have h2:=q8d n z r u h;omega
theorem j7y (s:Bs):Fo.bulk (xmlM s).1.kids + Fo.atB (xmlM s).1.ats≤15000:=by
 have h0:Fo.bulk .nil=0:=rfl;have h1:Fo.atB ([]:List At)=0:=rfl;unfold xmlM
 split
 ·show Fo.bulk .nil + Fo.atB []≤_;omega
 rename_i hl
 rw[j7z]
 cases hm:z3u s with
 | er e=>show Fo.bulk .nil + Fo.atB []≤_;omega
 | ok u r =>
  simp only;have hr:r.length≤s.length:=by
   have:=q8d _ _ _ _ hm;omega
  cases he:z5l 1 r with
  | er e=>show Fo.bulk .nil + Fo.atB []≤_;omega
  | ok x z =>
   have hb:=q2y he;simp only
   cases hm2:z3u z with
   | er e=>show Fo.bulk .nil + Fo.atB []≤_;omega
   | ok u2 v =>
    simp only
    split
    ·show Fo.bulk x.kids + Fo.atB x.ats≤_;omega
    ·show Fo.bulk .nil + Fo.atB []≤_;omega
end Fd
namespace Go.Proofs.YtjonkbdldebkiaaGreatDoor
open Go.Proofs.Tryz Go.RowKit
def MapsC (g:FuncId) (E:Mk.Fo→Fd.En) (w:World) (M:Nat) (base:List UInt8) (K:Nat→Prop):Prop:=∀ (wx:World) (u:Value) (out:List Fd.En) (n:List UInt8) (a:List Mk.At) (t:List UInt8) (k:Mk.Fo) (va vk:Value),MpI w wx M base u out→out.length≤12→NdV w K va vk ⟨n,a,t,k⟩→k.bulk≤100000 →
 Calls prog g #[.pointer (some ⟨M,0,none⟩),z05 n va t vk] wx fun e w'=>e=.returned (.tuple #[])∧∃ u',MpI w w' M base u' (Fd.putM base out (E k))
theorem j5r (g:FuncId) (eg:∀ args w,(callFunc g args).run prog w=.ok (.enter g args) w) (E:Mk.Fo→Fd.En) {w wx:World} {M:Nat} {base:List UInt8} {u:Value} (K:Nat→Prop) (hE:MapsC g E w M base K) (h:MpI w wx M base u [])
  (n title t:List UInt8) (a:List Mk.At) (k:Mk.Fo) (va vk:Value) (hva:∃ ao cap,va=.slice ao a.length cap) (hvk:FoV w K vk k) (hK:∀ b,K b→b < w.heap.size∧b ≠ M) (hl:k.bulk≤100000) :
  Calls prog 70 #[z05 n va t vk,.string (st title),.func (.func g) #[.pointer (some ⟨M,0,none⟩)] #[]] wx fun e w'=>e=.returned (.tuple #[])∧∃ u',MpI w w' M base u' (Fd.z7h base title E k []):=by
 have hst:∀ l:List UInt8,(st l).toList=l:=fun l=>Lib.toList_data _
 obtain⟨b,o,cap,hv1,hlen,hat⟩:=hvk.at_
 obtain⟨aoa,capa,rfl⟩:=hva;have HAT:=Ld hat
 have HEE:=Ld hE;have HKK:=Ld hK;have hfl:=Mk.Fo.z1r k;obtain⟨res,hres⟩:∃ res,Fd.z7h base title E k []=res:=⟨_,rfl⟩;rw[hres];have HRES:=Ld hres;clear hat hE hK hres
 rcases hv1 with ⟨hv1,hKb⟩ | ⟨ao,hv1,hnil⟩
 ·have hKB:=HKK.out b hKb
  subst hv1;have hal:=(Below.refl wx.heap.size wx).alloc (Lr) (.cells #[.string (st n),.slice aoa a.length capa,.string (st t),.slice (some ⟨b,o,none⟩) k.len cap] 53);have I1:=Ld (h.below hal);have NB:=Ld (Blk.new wx 53 #[.string (st n),.slice aoa a.length capa,.string (st t),.slice (some ⟨b,o,none⟩) k.len cap]);clear hal h hvk;unfold z05;go_enter func70,ntmps70;go_upto_region 1 with fail;generalize wx.alloc (.cells #[.string (st n),.slice aoa a.length capa,.string (st t),.slice (some ⟨b,o,none⟩) k.len cap] 53)=w1 at I1 NB ⊢;have p3:w1.cell? ⟨wx.heap.size,3,none⟩=some (.slice (some ⟨b,o,none⟩) k.len cap):=Blk.cell NB.out 3;clear NB;go_wp2_with fail;clear p3
  go_loopw [11] (fun i wr=>∃ (j:Nat) (out:List Fd.En) (u':Value),j≤k.len∧i=.int .i64 j∧out.length≤12∧Hid (Fd.z7h base title E (k.drop j) out=res)∧Hid (MpI w wr M base u' out)) (fun i _=>k.len - (intOf i).toNat)
  case atStart=>exact⟨0,[],_,Nat.zero_le _,rfl,Nat.zero_le _,by show _=_;rw[Mk.Fo.drop_zero];exact HRES.out,I1⟩
  case round =>
   obtain⟨j,out,u',hj,rfl,hol,HA,I⟩:=hrel
   by_cases hlt:j < k.len
   ·obtain⟨n',a',t',kk,r,hd,hd1⟩:=Mk.Fo.z6j k j hlt
    obtain⟨va',vk',c0,c1,c2,c3,hva',hvk'⟩:=HAT.out j n' a' t' kk r hd;have hgm:wr.heap[b]? = w.heap[b]?:=I.out.ap.block b hKB.1 (fun e=>hKB.2 e);rw[← cell_of_block hgm] at c0 c1 c2 c3;obtain⟨aoa',capa',hva1',_⟩:=id hva';obtain⟨aok',capk',xsk',hvk1',_⟩:=id hvk';subst hva1';subst hvk1';have hdb:(k.drop j).bulk=1 + n'.length + t'.length + Mk.Fo.atB a' + kk.bulk + r.bulk:=by rw[hd];rfl
    have hdb2:=Mk.Fo.z1z k j;have HN:Hid (Fd.z7h base title E (k.drop (j + 1)) (if n'=title then Fd.putM base out (E kk) else out)=res):=by show _=_;rw[← HA.out,hd,hd1,Fd.j1t]
    have hal1:=(Below.refl wr.heap.size wr).alloc (Lr) (.cells #[.string (st n'),.slice aoa' a'.length capa',.string (st t'),.slice aok' kk.len capk'] 53);have I2:=Ld (I.out.below hal1);have QB:=Ld (Blk.new wr 53 #[.string (st n'),.slice aoa' a'.length capa',.string (st t'),.slice aok' kk.len capk']);have HCALL:=Ld (HEE.out _ u' out n' a' t' kk _ _ I2.out hol ⟨hva',hvk'⟩ (by omega));have hji:(j:Int) < k.len:=by omega
    have hpl:=Fd.putM_len base out (E kk) hol;unfold z05 at HCALL;clear HA hd hd1 hva' hvk' hal1 I hgm hdb hdb2;go_upto_region 4 with fail;generalize wr.alloc (.cells #[.string (st n'),.slice aoa' a'.length capa',.string (st t'),.slice aok' kk.len capk'] 53)=w2 at I2 QB HCALL ⊢;have q0:w2.cell? ⟨wr.heap.size,0,none⟩=some (.string (st n')):=Blk.cell QB.out 0;have q1:w2.cell? ⟨wr.heap.size,1,none⟩=some (.slice aoa' a'.length capa'):=Blk.cell QB.out 1;have q2:w2.cell? ⟨wr.heap.size,2,none⟩=some (.string (st t')):=Blk.cell QB.out 2;have q3:w2.cell? ⟨wr.heap.size,3,none⟩=some (.slice aok' kk.len capk'):=Blk.cell QB.out 3;clear c0 c1 c2 c3 QB
    by_cases hn:n'=title
    ·have hnb:(n' == title)=true:=by simpa using hn
     rw[if_pos hn] at HN;clear hn;go_wp2_with fail;refine HCALL.out.mono ?_;rintro e w3 ⟨rfl,u3,hm3⟩;have I3:=Ld hm3;clear hm3 HCALL I2 q0 q1 q2 q3;go_wp2_with fail;go_roundw
     case rel=>exact⟨j + 1,_,u3,by omega,by go_num,hpl,HN,I3⟩
     case measure=>simp[intOf];omega
    ·have hnb:(n' == title)=false:=beq_eq_false_iff_ne.2 hn
     rw[if_neg hn] at HN;clear hn HCALL;go_wp2_with fail;go_roundw
     case rel=>exact⟨j + 1,_,u',by omega,by go_num,hol,HN,I2⟩
     case measure=>simp[intOf];omega
   ·have hje:j=k.len:=by omega
    have HE:Hid (out=res):=by
     show _=_;rw[← HA.out,hje,Mk.Fo.z4e];rfl
    have hji:¬ (j:Int) < k.len:=by omega
    clear HA hje;go_wp2_with fail
    first | go_end0 | (simp only [Exit.inBlock,Exit.then];refine bodyPost_ret (results_none rfl _ _ _) rfl ?_) | refine bodyPost_ret (results_none rfl _ _ _) rfl ?_
    exact⟨rfl,_,by rw[← HE.out];exact I.out⟩
 ·subst hnil
  subst hv1;have hal:=(Below.refl wx.heap.size wx).alloc (Lr) (.cells #[.string (st n),.slice aoa a.length capa,.string (st t),.slice ao 0 cap] 53);have I1:=Ld (h.below hal);have HE:Hid (([]:List Fd.En)=res):=HRES.out;clear hal h hvk HAT;unfold z05;go_enter func70,ntmps70;go_wp2_with fail
  go_loopw [11] (fun i wr=>i=.int .i64 0∧Hid (MpI w wr M base u [])) (fun _ _=>0)
  case atStart=>exact⟨rfl,I1⟩
  case round =>
   obtain⟨rfl,I⟩:=hrel;go_wp2_with fail
   first | go_end0 | (simp only [Exit.inBlock,Exit.then];refine bodyPost_ret (results_none rfl _ _ _) rfl ?_) | refine bodyPost_ret (results_none rfl _ _ _) rfl ?_
   exact⟨rfl,_,by rw[← HE.out];exact I.out⟩
theorem eg_item (args:Array Value) (w:World):(callFunc 71 args).run prog w=.ok (.enter 71 args) w:=Z7 func71 (by kernel_rfl) rfl _ _
theorem eg_entry (args:Array Value) (w:World):(callFunc 72 args).run prog w=.ok (.enter 72 args) w:=Z7 func72 (by kernel_rfl) rfl _ _
def z1b (base s:List UInt8) (w:World) (e:Ending) (w':World):Prop:=Below w.heap.size w w'∧∃ v,e=.returned (.tuple #[v,.int .i64 (Fd.X0 base s).2])∧z18 w' (Nw w w') v (Fd.X0 base s).1
theorem z1b.er {base s:List UInt8} {w w':World} {c:Int} (h:Fd.X0 base s=([],c)) (hb:Below w.heap.size w w'):z1b base s w (.returned (.tuple #[.slice none 0 0,.int .i64 c])) w':=by
 unfold z1b;rw[h];exact⟨hb,_,rfl,z18.nil _ _⟩
theorem z1b.ok {base s:List UInt8} {w w3 w':World} {M:Nat} {u:Value} {l:List Fd.En} (h:Fd.X0 base s=(l,0)) (hb:Below w.heap.size w w3) (hM:w.heap.size≤M) (hm:MpI w3 w' M base u l):z1b base s w (.returned (.tuple #[u,.int .i64 0])) w':=by
 unfold z1b;rw[h];have h3:=hb.size;refine⟨hb.trans (hm.ap.below hb.size (fun k hk e=>by have e:k=M:=e;omega)),u,rfl,?_⟩;obtain⟨ao,cap,h1,h2,h4⟩:=z19.of_own (K:=Nw w w') hm.ow (fun g hg=>⟨Nat.le_trans h3 (hm.ow.lt g hg).1,(hm.ow.lt g hg).2⟩);exact⟨ao,cap,h1,h2,h4⟩
theorem fd_Read (base s:List UInt8) (w:World) (hg:Gl w) :
  Calls prog 28 #[.string (st base),.string (st s)] w fun e w'=>z1b base s w e w':=by
 have hst:∀ l:List UInt8,(st l).toList=l:=fun l=>Lib.toList_data _
 have hmf:∀ (fn:Fn) (first cap:Array Value) (w:World),(Instr.makeFunc fn first cap).run prog w=.ok (.func fn first cap) w:=fun _ _ _ _=>rfl
 have HG:=Ld hg;have hlt:=hg.lt;have HF:Hid (Fd.X0 base s=if 3000 < base.length then ([],(2:Int)) else if (Fd.xmlM s).2 ≠ 0 then ([],(Fd.xmlM s).2) else if (Fd.xmlM s).1.name=Fd.tRss then (match Fd.q14 Fd.q03 (Fd.xmlM s).1.kids with | none=>([],(5:Int)) | some c=>(Fd.z7h base Fd.j7m Fd.q4n c.kids [],(0:Int))) else if (Fd.xmlM s).1.name=Fd.tFeed then (Fd.z7h base Fd.j08 Fd.z9r (Fd.xmlM s).1.kids [],(0:Int)) else ([],(7:Int))):=by
  show _=_;unfold Fd.X0
  split
  ·rfl
  split
  ·rfl
  split
  ·cases Fd.q14 Fd.q03 (Fd.xmlM s).1.kids <;> rfl
  ·rfl
 have hz:(st base).size=base.length:=Z4 base
 by_cases hbl:3000 < base.length
 ·have HE:Hid (Fd.X0 base s=([],2)):=by show _=_;rw[HF.out,if_pos hbl]
  have h2:3000 < (st base).size:=by omega
  clear HF hbl hz hg;go_enter func28,ntmps28;go_wp2_with fail;go_ret2;exact z1b.er HE.out (Below.refl _ _)
 have h2:¬ 3000 < (st base).size:=by omega
 have hb3:base.length≤3000:=by omega
 rw[if_neg hbl] at HF;have HX:=Ld (xm_Read s w hg);have hxb:=Fd.j7y s;generalize Fd.xmlM s=x at HX HF hxb;clear hz hbl hg;go_enter func28,ntmps28;go_wp2_with fail;refine HX.out.mono ?_;rintro e w1 ⟨hb1,va,vk,rfl,hva,hvk⟩;obtain⟨aoa,capa,hva1,_⟩:=id hva;subst hva1;obtain⟨aok,capk,xsk,hvk1,_⟩:=id hvk;subst hvk1;have hal:=(Below.refl w1.heap.size w1).alloc (Lr) (.cells #[.string (st x.1.name),.slice aoa x.1.ats.length capa,.string (st []),.slice aok x.1.kids.len capk] 53);have hK1:∀ b,Nw w w1 b→b < w1.heap.size:=fun b q=>q.2
 have ND2:=Ld (show NdV (w1.alloc (.cells #[.string (st x.1.name),.slice aoa x.1.ats.length capa,.string (st []),.slice aok x.1.kids.len capk] 53)) (Nw w w1) (.slice aoa x.1.ats.length capa) (.slice aok x.1.kids.len capk) ⟨x.1.name,x.1.ats,[],x.1.kids⟩ from ⟨hva.below hK1 hal,hvk.below hK1 hal⟩);have B2:=Ld (hb1.trans (hal.mono hb1.size));have DB:=Ld (Blk.new w1 53 #[.string (st x.1.name),.slice aoa x.1.ats.length capa,.string (st []),.slice aok x.1.kids.len capk]);have hs12:=hal.size;clear hb1 hva hvk hal HX;unfold z05;go_upto_region 4 with fail;have hD1:∀ b,Nw w w1 b→b < w1.heap.size:=hK1;generalize hw2:w1.alloc (.cells #[.string (st x.1.name),.slice aoa x.1.ats.length capa,.string (st []),.slice aok x.1.kids.len capk] 53)=w2 at ND2 B2 DB hs12 ⊢;clear hw2 hK1;obtain⟨x,c⟩:=x
 by_cases hc:c=0
 case neg =>
  have HE:Hid (Fd.X0 base s=([],c)):=by show _=_;rw[HF.out,if_pos hc]
  have hcb:(c == 0)=false:=beq_eq_false_iff_ne.2 hc;clear HF hc;go_wp2_with fail;go_ret2;exact z1b.er HE.out B2.out
 subst hc;have HF2:Hid (Fd.X0 base s=if x.name=Fd.tRss then (match Fd.q14 Fd.q03 x.kids with | none=>([],(5:Int)) | some c=>(Fd.z7h base Fd.j7m Fd.q4n c.kids [],(0:Int))) else if x.name=Fd.tFeed then (Fd.z7h base Fd.j08 Fd.z9r x.kids [],(0:Int)) else ([],(7:Int))):=by
  show _=_;rw[HF.out,if_neg (fun q=>q rfl)]
 have hxb2:x.kids.bulk≤15000:=by have:Mk.Fo.bulk x.kids + Mk.Fo.atB x.ats≤15000:=hxb;omega
 clear HF hxb;have hal3:=(Below.refl w2.heap.size w2).alloc (Lr) (.cells #[.string (st base),.slice none 0 0] 118);have I3:Hid (MpI (w2.alloc (.cells #[.string (st base),.slice none 0 0] 118)) (w2.alloc (.cells #[.string (st base),.slice none 0 0] 118)) w2.heap.size base (.slice none 0 0) []):=⟨by simp,Blk.new w2 _ _,Ap.refl _ _,World.ownsRow_nil _ _ _ _⟩;have hK2:∀ b,Nw w w1 b→b < w2.heap.size:=fun b q=>Nat.lt_of_lt_of_le (hD1 b q) hs12
 have ND3:Hid (NdV (w2.alloc (.cells #[.string (st base),.slice none 0 0] 118)) (Nw w w1) (.slice aoa x.ats.length capa) (.slice aok x.kids.len capk) ⟨x.name,x.ats,[],x.kids⟩):=⟨ND2.out.1.below hK2 hal3,ND2.out.2.below hK2 hal3⟩;have B3:=Ld (B2.out.trans (hal3.mono B2.out.size));have DB3:=Ld (Blk.alloc DB.out (.cells #[.string (st base),.slice none 0 0] 118));have hMw:w.heap.size≤w2.heap.size:=B2.out.size;have HG3:=Ld (HG.out.below B3.out hlt);have hM:4 < w2.heap.size:=by omega
 have hK3:∀ b,Nw w w1 b→b < (w2.alloc (.cells #[.string (st base),.slice none 0 0] 118)).heap.size∧b ≠ w2.heap.size:=fun b q=>⟨by have:=hK2 b q;simp;omega,by have:=hK2 b q;omega⟩
 clear hal3 ND2 DB B2;go_upto_region 7 with fail;generalize w2.alloc (.cells #[.string (st base),.slice none 0 0] 118)=w3 at I3 ND3 B3 DB3 HG3 hK3 ⊢;generalize w2.heap.size=M at I3 hMw hM hK3 ⊢;have HK3:=Ld hK3;have d0:w3.cell? ⟨w1.heap.size,0,none⟩=some (.string (st x.name)):=Blk.cell DB3.out 0;have d1:w3.cell? ⟨w1.heap.size,1,none⟩=some (.slice aoa x.ats.length capa):=Blk.cell DB3.out 1;have d2:w3.cell? ⟨w1.heap.size,2,none⟩=some (.string (st [])):=Blk.cell DB3.out 2;have d3:w3.cell? ⟨w1.heap.size,3,none⟩=some (.slice aok x.kids.len capk):=Blk.cell DB3.out 3;clear hK2 hK3 hD1 DB3
 by_cases hrss:x.name=Fd.tRss
 ·as_aux_lemma =>
  rw[if_pos hrss] at HF2;have hnb:(x.name == [114,115,115])=true:=by rw[hrss];rfl
  have HCH:=Ld (q09 69 q4e x.name Fd.q03 x.ats [] (.slice aoa x.ats.length capa) (.slice aok x.kids.len capk) x.kids (fun _=>true) (Nw w w1) w3 ⟨_,_,rfl⟩ ND3.out.2 (fun b q=>(HK3.out b q).1) (by omega) (z8z x.kids (Nw w w1) w3));have hcb:=z3o Fd.q03 (fun _=>true) x.kids;have HO:Hid (Fd.q14 Fd.q03 x.kids=Fd.z2z Fd.q03 (fun _=>true) x.kids):=rfl;have HR:Hid (childR Fd.q03 (fun _=>true) x.kids=(Fd.z2z Fd.q03 (fun _=>true) x.kids).getD Fd.Nd.none):=rfl;generalize childR Fd.q03 (fun _=>true) x.kids=cx at HCH hcb HR;generalize Fd.z2z Fd.q03 (fun _=>true) x.kids=co at HCH HO HR;rw[HO.out] at HF2;unfold z05 at HCH;clear hrss HO ND3;go_wp2_with fail;refine HCH.out.mono ?_;rintro e w4 ⟨hb4,cva,cvk,rfl,hnd⟩;obtain⟨caoa,ccapa,hcva,_⟩:=id hnd.1;subst hcva;obtain⟨caok,ccapk,cxs,hcvk,_⟩:=id hnd.2;subst hcvk;have hal4:=(Below.refl w4.heap.size w4).alloc (Lr) (.cells #[.string (st cx.name),.slice caoa cx.ats.length ccapa,.string (st cx.text),.slice caok cx.kids.len ccapk] 53);have I5:=Ld ((I3.out.below hb4).below hal4);have B5:=Ld (B3.out.trans ((hb4.trans (hal4.mono hb4.size)).mono B3.out.size));have CB:=Ld (Blk.new w4 53 #[.string (st cx.name),.slice caoa cx.ats.length ccapa,.string (st cx.text),.slice caok cx.kids.len ccapk]);have HK4:Hid (∀ b,Nw w w1 b→b < w4.heap.size):=fun b q=>Nat.lt_of_lt_of_le (HK3.out b q).1 hb4.size
  have ND5:Hid (NdV (w4.alloc (.cells #[.string (st cx.name),.slice caoa cx.ats.length ccapa,.string (st cx.text),.slice caok cx.kids.len ccapk] 53)) (Nw w w1) (.slice caoa cx.ats.length ccapa) (.slice caok cx.kids.len ccapk) cx):=⟨hnd.1.below HK4.out hal4,hnd.2.below HK4.out hal4⟩;have B34:=Ld (hb4.trans (hal4.mono hb4.size));clear hb4 hnd hal4 HCH d0 d1 d2 d3;go_upto_region 11 with fail;generalize w4.alloc (.cells #[.string (st cx.name),.slice caoa cx.ats.length ccapa,.string (st cx.text),.slice caok cx.kids.len ccapk] 53)=w5 at I5 B5 CB ND5 B34 ⊢
  cases co with
  | none =>
   have HE:Hid (Fd.X0 base s=([],5)):=HF2;have hs0:(none:Option Fd.Nd).isSome=false:=rfl;clear HF2;go_wp2_with fail;go_ret2;exact z1b.er HE.out B5.out
  | some y =>
   have hcy:cx=y:=HR.out;subst hcy;have HE:Hid (Fd.X0 base s=(Fd.z7h base Fd.j7m Fd.q4n cx.kids [],0)):=HF2;have hs0:(some cx).isSome=true:=rfl;have e0:w5.cell? ⟨w4.heap.size,0,none⟩=some (.string (st cx.name)):=Blk.cell CB.out 0;have e1:w5.cell? ⟨w4.heap.size,1,none⟩=some (.slice caoa cx.ats.length ccapa):=Blk.cell CB.out 1;have e2:w5.cell? ⟨w4.heap.size,2,none⟩=some (.string (st cx.text)):=Blk.cell CB.out 2;have e3:w5.cell? ⟨w4.heap.size,3,none⟩=some (.slice caok cx.kids.len ccapk):=Blk.cell CB.out 3;have I55:Hid (MpI w5 w5 M base (.slice none 0 0) []):=⟨I5.out.mb.lt,I5.out.mb,Ap.refl _ _,World.ownsRow_nil _ _ _ _⟩;have HK5:Hid (∀ b,Nw w w1 b→b < w5.heap.size∧b ≠ M):=fun b q=>⟨Nat.lt_of_lt_of_le (HK3.out b q).1 B34.out.size,(HK3.out b q).2⟩
   have HMC:Hid (MapsC 71 Fd.q4n w5 M base (Nw w w1)):=fun wx u out n a t k va vk hm hol hnd hl=>mp_item (HG3.out.below B34.out (by have:=HG3.out.lt;omega)) hM hm hb3 hol n t a k va vk (Nw w w1) hnd HK5.out hl
   have HEA:=Ld (j5r 71 eg_item Fd.q4n (Nw w w1) HMC.out I55.out cx.name Fd.j7m cx.text cx.ats cx.kids (.slice caoa cx.ats.length ccapa) (.slice caok cx.kids.len ccapk) ⟨_,_,rfl⟩ ND5.out.2 HK5.out (by omega));unfold z05 at HEA;clear HF2 HR CB I5 HMC ND5 I3 hcb;go_wp2_with fail;refine HEA.out.mono ?_;rintro e w6 ⟨rfl,u6,hm6⟩;have I6:=Ld hm6;clear hm6 HEA I55 e0 e1 e2 e3;have m1:w6.cell? ⟨M,1,none⟩=some u6:=Blk.cell I6.out.mb 1;go_wp2_with fail;go_ret2;exact z1b.ok HE.out B5.out hMw I6.out
 rw[if_neg hrss] at HF2;have hnb:(x.name == [114,115,115])=false:=beq_eq_false_iff_ne.2 hrss;clear hrss
 by_cases hfeed:x.name=Fd.tFeed
 ·as_aux_lemma =>
  rw[if_pos hfeed] at HF2;have hnf:(x.name == [102,101,101,100])=true:=by rw[hfeed];rfl
  have HMC:Hid (MapsC 72 Fd.z9r w3 M base (Nw w w1)):=fun wx u out n a t k va vk hm hol hnd hl=>mp_entry HG3.out hM hm hb3 hol n t a k va vk (Nw w w1) hnd HK3.out hl
  have HEA:=Ld (j5r 72 eg_entry Fd.z9r (Nw w w1) HMC.out I3.out x.name Fd.j08 [] x.ats x.kids (.slice aoa x.ats.length capa) (.slice aok x.kids.len capk) ⟨_,_,rfl⟩ ND3.out.2 HK3.out (by omega));unfold z05 at HEA;clear hfeed HMC ND3 I3;go_wp2_with fail;refine HEA.out.mono ?_;rintro e w6 ⟨rfl,u6,hm6⟩;have I6:=Ld hm6;clear hm6 HEA d0 d1 d2 d3;have m1:w6.cell? ⟨M,1,none⟩=some u6:=Blk.cell I6.out.mb 1;go_wp2_with fail;go_ret2;exact z1b.ok HF2.out B3.out hMw I6.out
 ·rw[if_neg hfeed] at HF2
  have hnf:(x.name == [102,101,101,100])=false:=beq_eq_false_iff_ne.2 hfeed;clear hfeed;go_wp2_with fail;go_ret2;exact z1b.er HF2.out B3.out
def z0g (s:Fd.Sh) (a:Fd.Ac) (w:World) (e:Ending) (w':World):Prop:=Below w.heap.size w w'∧∃ aoe aor ce cr,e=.returned (.tuple #[.agg #[.slice aoe (Fd.stepS Fd.X0 s a).1.es.length ce,.slice aor (Fd.stepS Fd.X0 s a).1.rd.length cr],.int .i64 (Fd.stepS Fd.X0 s a).2.1,.int .i64 (Fd.stepS Fd.X0 s a).2.2])∧ShV w' (fun b=>w.heap.size≤b∧b < w'.heap.size) (.slice aoe (Fd.stepS Fd.X0 s a).1.es.length ce) (.slice aor (Fd.stepS Fd.X0 s a).1.rd.length cr) (Fd.stepS Fd.X0 s a).1
theorem ShV.slices {w:World} {K:Nat→Prop} {ve vr:Value} {s:Fd.Sh} (h:ShV w K ve vr s):∃ aoe aor ce cr,ve=.slice aoe s.es.length ce∧vr=.slice aor s.rd.length cr:=by
 obtain⟨aoe,ce,h1,_⟩:=h.1;obtain⟨aor,cr,h2,_⟩:=h.2;exact⟨aoe,aor,ce,cr,h1,h2⟩
theorem z0g.er {s:Fd.Sh} {a:Fd.Ac} {w w':World} {c:Int} (h:Fd.stepS Fd.X0 s a=(Fd.Sh.none,0,c)) (hb:Below w.heap.size w w'):z0g s a w (.returned (.tuple #[.agg #[.slice none 0 0,.slice none 0 0],.int .i64 0,.int .i64 c])) w':=by
 unfold z0g;rw[h];exact⟨hb,none,none,0,0,rfl,ShV.emp _ _⟩
theorem z0g.ok {s t:Fd.Sh} {a:Fd.Ac} {w w':World} {n c:Int} {aoe aor:Option Addr} {ce cr:Nat} (h:Fd.stepS Fd.X0 s a=(t,n,c)) (hb:Below w.heap.size w w') (hv:ShV w' (fun b=>w.heap.size≤b∧b < w'.heap.size) (.slice aoe t.es.length ce) (.slice aor t.rd.length cr) t):z0g s a w (.returned (.tuple #[.agg #[.slice aoe t.es.length ce,.slice aor t.rd.length cr],.int .i64 n,.int .i64 c])) w':=by
 unfold z0g;rw[h];exact⟨hb,aoe,aor,ce,cr,rfl,hv⟩
theorem ShV.stored2 {w0 w1 w2:World} {R:Nat} {ve vr v0 v1:Value} {s:Fd.Sh} (h:ShV w2 (fun b=>w1.heap.size≤b∧b < w2.heap.size) ve vr s) (hR:R < w1.heap.size) (h0:w0.heap.size≤w1.heap.size):ShV ((w2.setCell ⟨R,0,none⟩ v0).setCell ⟨R,1,none⟩ v1) (fun b=>w0.heap.size≤b∧b < ((w2.setCell ⟨R,0,none⟩ v0).setCell ⟨R,1,none⟩ v1).heap.size) ve vr s:=by
 have hfr:∀ b,(w1.heap.size≤b∧b < w2.heap.size)→(w0.heap.size≤b∧b < w2.heap.size∧b ≠ R)∧w2.heap[b]? = w2.heap[b]?:=fun b q=>⟨by omega,rfl⟩
 have h2:ShV w2 (fun b=>w0.heap.size≤b∧b < w2.heap.size∧b ≠ R) ve vr s:=⟨h.1.frame hfr,h.2.frame hfr⟩;exact h2.stored
theorem feed_len (b s:List UInt8):(Fd.X0 b s).1.length≤12:=(Fd.q4t b s).2.2
theorem q47 (s:Fd.Sh) (a:Fd.Ac) (ve vr:Value) (K:Nat→Prop) (w:World) (hg:Gl w) (hv:ShV w K ve vr s) (hK:∀ b,K b→b < w.heap.size) (hid:∀ x ∈ s.es,x.id.length≤1048576) :
  Calls prog 12 #[.agg #[ve,vr],acV a] w fun e w'=>z0g s a w e w':=by
 have hlt:=hg.lt;obtain⟨aoe,aor,cape,capr,rfl,rfl⟩:=hv.slices;have HG:=Ld hg;have HK:=Ld hK;have HV:=Ld hv;have HID:=Ld hid;have HS:Hid (Fd.stepS Fd.X0 s a=if Fd.z0e s ≠ 0 then (Fd.Sh.none,0,Fd.z0e s) else if Fd.z0w a ≠ 0 then (Fd.Sh.none,0,Fd.z0w a) else if a.kind=1 then (if (Fd.X0 a.base a.text).2 ≠ 0 then (Fd.Sh.none,0,(Fd.X0 a.base a.text).2) else (⟨Fd.z7i s.es (Fd.X0 a.base a.text).1,s.rd⟩,Fd.newE (Fd.z7i s.es (Fd.X0 a.base a.text).1) s.es,0)) else if a.kind=4 then (Fd.z96 s,(s.es.length:Int) - (Fd.z96 s).es.length,0) else (if (Fd.z3t s a.text (decide (a.kind=2))).2 ≠ 0 then (Fd.Sh.none,0,(Fd.z3t s a.text (decide (a.kind=2))).2) else ((Fd.z3t s a.text (decide (a.kind=2))).1,1,0))):=rfl;have AL1:=(Below.refl w.heap.size w).alloc (Lr) (.cells #[.slice aoe s.es.length cape,.slice aor s.rd.length capr] 26);have AL2:=AL1.alloc AL1.size (.cells #[.int .i64 a.kind,.string (st a.text),.string (st a.base)] 36);have AL3:=AL2.alloc AL2.size (.cells #[.slice none 0 0,.slice none 0 0] 26);have XB:=Ld (Blk.alloc (Blk.alloc (Blk.new w 26 #[.slice aoe s.es.length cape,.slice aor s.rd.length capr]) (.cells #[.int .i64 a.kind,.string (st a.text),.string (st a.base)] 36)) (.cells #[.slice none 0 0,.slice none 0 0] 26));have YB:Hid (Blk (((w.alloc (.cells #[.slice aoe s.es.length cape,.slice aor s.rd.length capr] 26)).alloc (.cells #[.int .i64 a.kind,.string (st a.text),.string (st a.base)] 36)).alloc (.cells #[.slice none 0 0,.slice none 0 0] 26)) (w.heap.size + 1) 36 #[.int .i64 a.kind,.string (st a.text),.string (st a.base)]):=by
  have:=Blk.alloc (Blk.new (w.alloc (.cells #[.slice aoe s.es.length cape,.slice aor s.rd.length capr] 26)) 36 #[.int .i64 a.kind,.string (st a.text),.string (st a.base)]) (.cells #[.slice none 0 0,.slice none 0 0] 26);simp only [World.size_alloc] at this;exact this
 have RB:Hid (Blk (((w.alloc (.cells #[.slice aoe s.es.length cape,.slice aor s.rd.length capr] 26)).alloc (.cells #[.int .i64 a.kind,.string (st a.text),.string (st a.base)] 36)).alloc (.cells #[.slice none 0 0,.slice none 0 0] 26)) (w.heap.size + 2) 26 #[.slice none 0 0,.slice none 0 0]):=by
  have:=Blk.new ((w.alloc (.cells #[.slice aoe s.es.length cape,.slice aor s.rd.length capr] 26)).alloc (.cells #[.int .i64 a.kind,.string (st a.text),.string (st a.base)] 36)) 26 #[.slice none 0 0,.slice none 0 0];simp only [World.size_alloc] at this;exact this
 have B1:=Ld AL3;clear AL1 AL2 AL3 hg hv hK hid;unfold acV;go_enter func12,ntmps12;go_upto_region 1 with fail;obtain⟨X,hX⟩:∃ X,X=w.heap.size:=⟨_,rfl⟩;rw[← hX] at XB YB RB;rw[← hX];have hXw:w.heap.size≤X:=by omega
 generalize (((w.alloc (.cells #[.slice aoe s.es.length cape,.slice aor s.rd.length capr] 26)).alloc (.cells #[.int .i64 a.kind,.string (st a.text),.string (st a.base)] 36)).alloc (.cells #[.slice none 0 0,.slice none 0 0] 26))=w1 at B1 XB YB RB ⊢;clear hX;have x0:w1.cell? ⟨X,0,none⟩=some (.slice aoe s.es.length cape):=Blk.cell XB.out 0;have x1:w1.cell? ⟨X,1,none⟩=some (.slice aor s.rd.length capr):=Blk.cell XB.out 1;have HCK:=Ld (z4h s _ _ K w1 (HG.out.below B1.out hlt) (HV.out.1.below HK.out B1.out) (HV.out.2.below HK.out B1.out) (fun b q=>Nat.lt_of_lt_of_le (HK.out b q) B1.out.size) HID.out);obtain⟨c,hc⟩:∃ c,Fd.z0e s=c:=⟨_,rfl⟩;rw[hc] at HCK HS;have HCS:=Ld hc;clear hc;go_wp2_with fail;refine HCK.out.mono ?_;rintro e w2 ⟨rfl,hb2⟩;have B2:=Ld (B1.out.trans (hb2.mono B1.out.size));have X2:=Ld (Blk.call XB.out hb2);have Y2:=Ld (Blk.call YB.out hb2);have R2:=Ld (Blk.call RB.out hb2);clear hb2 HCK x0 x1 B1 XB YB RB
 by_cases hc0:c=0
 case neg =>
  have HE:Hid (Fd.stepS Fd.X0 s a=(Fd.Sh.none,0,c)):=by show _=_;rw[HS.out,if_pos hc0]
  have hcb:(c == 0)=false:=beq_eq_false_iff_ne.2 hc0;have hcn:(c != 0)=true:=by simp[hc0]
  clear HS hc0 HCS;have r0:w2.cell? ⟨X + 2,0,none⟩=some (.slice none 0 0):=Blk.cell R2.out 0;have r1:w2.cell? ⟨X + 2,1,none⟩=some (.slice none 0 0):=Blk.cell R2.out 1;have f0:=Blk.frozen R2.out 0;have f1:=Blk.frozen R2.out 1;go_wp2_with fail;refine bodyPost_ret (v:=.tuple #[.agg #[.slice none 0 0,.slice none 0 0],.int .i64 0,.int .i64 c]) (by simp[results,results12,go_sem, *]) rfl ?_;exact z0g.er HE.out ((B2.out.setCell (p:=⟨X + 2,0,none⟩) (by show _≤X + 2;omega) _).setCell (p:=⟨X + 2,1,none⟩) (by show _≤X + 2;omega) _)
 subst hc0;have HS1:=Ld (HS.out.trans (if_neg (by decide)));clear HS;have y0:w2.cell? ⟨X + 1,0,none⟩=some (.int .i64 a.kind):=Blk.cell Y2.out 0;have y1:w2.cell? ⟨X + 1,1,none⟩=some (.string (st a.text)):=Blk.cell Y2.out 1;have y2:w2.cell? ⟨X + 1,2,none⟩=some (.string (st a.base)):=Blk.cell Y2.out 2;have hac:=dk_act a w2;unfold acV at hac;obtain⟨d,hd⟩:∃ d,Fd.z0w a=d:=⟨_,rfl⟩;rw[hd] at hac HS1;have HAC:=Ld hac;have HCA:=Ld hd;clear hac hd;go_wp2_with fail;refine HAC.out.mono ?_;rintro e w3 ⟨rfl,hb3⟩;have B3:=Ld (B2.out.trans (hb3.mono B2.out.size));have X3:=Ld (Blk.call X2.out hb3);have Y3:=Ld (Blk.call Y2.out hb3);have R3:=Ld (Blk.call R2.out hb3);clear hb3 HAC y0 y1 y2 B2 X2 Y2 R2
 by_cases hd0:d=0
 case neg =>
  have HE:Hid (Fd.stepS Fd.X0 s a=(Fd.Sh.none,0,d)):=by show _=_;rw[HS1.out,if_pos hd0]
  have hcn:(d != 0)=true:=by simp[hd0]
  clear HS1 hd0 HCA;have r0:w3.cell? ⟨X + 2,0,none⟩=some (.slice none 0 0):=Blk.cell R3.out 0;have r1:w3.cell? ⟨X + 2,1,none⟩=some (.slice none 0 0):=Blk.cell R3.out 1;have f0:=Blk.frozen R3.out 0;have f1:=Blk.frozen R3.out 1;go_wp2_with fail;refine bodyPost_ret (v:=.tuple #[.agg #[.slice none 0 0,.slice none 0 0],.int .i64 0,.int .i64 d]) (by simp[results,results12,go_sem, *]) rfl ?_;exact z0g.er HE.out ((B3.out.setCell (p:=⟨X + 2,0,none⟩) (by show _≤X + 2;omega) _).setCell (p:=⟨X + 2,1,none⟩) (by show _≤X + 2;omega) _)
 subst hd0;have HS2:=Ld (HS1.out.trans (if_neg (by decide)));clear HS1;have y0:w3.cell? ⟨X + 1,0,none⟩=some (.int .i64 a.kind):=Blk.cell Y3.out 0;have y1:w3.cell? ⟨X + 1,1,none⟩=some (.string (st a.text)):=Blk.cell Y3.out 1;have y2:w3.cell? ⟨X + 1,2,none⟩=some (.string (st a.base)):=Blk.cell Y3.out 2
 by_cases hk1:a.kind=1
 ·as_aux_lemma =>
  have HS3:=Ld (HS2.out.trans (if_pos hk1));have hkb:(a.kind == 1)=true:=beq_iff_eq.2 hk1;clear HS2 hk1;have hfr:=fd_Read a.base a.text w3 (HG.out.below B3.out hlt);unfold z1b at hfr;have hok:=Fd.q4t a.base a.text;have hfl:=feed_len a.base a.text;generalize Fd.X0 a.base a.text=r at hfr HS3 hok hfl;obtain⟨l,c⟩:=r;have HFR:=Ld hfr;have HOK:=Ld hok;clear hfr hok;go_wp2_with fail;refine HFR.out.mono ?_;rintro e w4 ⟨hb4,v4,rfl,hv4⟩;obtain⟨ao4,cap4,hs4,_⟩:=id hv4;subst hs4;have B4:=Ld (B3.out.trans (hb4.mono B3.out.size));have X4:=Ld (Blk.call X3.out hb4);have R4:=Ld (Blk.call R3.out hb4);have HV4:Hid (z18 w4 (fun b=>b < w4.heap.size) (.slice ao4 l.length cap4) l):=hv4.frame (fun b q=>⟨q.2,rfl⟩);clear hb4 hv4 HFR y0 y1 y2 X3 Y3 R3
  by_cases hc0:c=0
  case neg =>
   have HE:Hid (Fd.stepS Fd.X0 s a=(Fd.Sh.none,0,c)):=by show _=_;rw[HS3.out,if_pos hc0]
   have hcn:(c != 0)=true:=by simp[hc0]
   clear HS3 hc0;have r0:w4.cell? ⟨X + 2,0,none⟩=some (.slice none 0 0):=Blk.cell R4.out 0;have r1:w4.cell? ⟨X + 2,1,none⟩=some (.slice none 0 0):=Blk.cell R4.out 1;have f0:=Blk.frozen R4.out 0;have f1:=Blk.frozen R4.out 1;go_wp2_with fail;refine bodyPost_ret (v:=.tuple #[.agg #[.slice none 0 0,.slice none 0 0],.int .i64 0,.int .i64 c]) (by simp[results,results12,go_sem, *]) rfl ?_;exact z0g.er HE.out ((B4.out.setCell (p:=⟨X + 2,0,none⟩) (by show _≤X + 2;omega) _).setCell (p:=⟨X + 2,1,none⟩) (by show _≤X + 2;omega) _)
  subst hc0;have HE:=Ld (HS3.out.trans (if_neg (by decide)));clear HS3;have x0:w4.cell? ⟨X,0,none⟩=some (.slice aoe s.es.length cape):=Blk.cell X4.out 0;have x1:w4.cell? ⟨X,1,none⟩=some (.slice aor s.rd.length capr):=Blk.cell X4.out 1;have HSV4:Hid (ShV w4 (fun b=>b < w4.heap.size) (.slice aoe s.es.length cape) (.slice aor s.rd.length capr) s):=⟨(HV.out.1.below HK.out B4.out).frame (fun b q=>⟨Nat.lt_of_lt_of_le (HK.out b q) B4.out.size,rfl⟩),(HV.out.2.below HK.out B4.out).frame (fun b q=>⟨Nat.lt_of_lt_of_le (HK.out b q) B4.out.size,rfl⟩)⟩;have HPT:=Ld (sh_Put s l _ _ _ (fun b=>b < w4.heap.size) w4 (HG.out.below B4.out hlt) HSV4.out HV4.out (fun b q=>q) HCS.out hfl HOK.out.1);go_wp2_with fail;refine HPT.out.mono ?_;rintro e w5 ⟨hb5,ue',ur',rfl,hsv⟩;obtain⟨ue,ur,ce,cr,hue,hur⟩:=hsv.slices;subst hue;subst hur;have B5:=Ld (B4.out.trans (hb5.mono B4.out.size));have R5:=Ld (Blk.call R4.out hb5);have SV:=Ld hsv;clear hb5 HPT hsv x0 x1 X4 HV4 HSV4;have r0:w5.cell? ⟨X + 2,0,none⟩=some (.slice none 0 0):=Blk.cell R5.out 0;have r1:w5.cell? ⟨X + 2,1,none⟩=some (.slice none 0 0):=Blk.cell R5.out 1;have f0:=Blk.frozen R5.out 0;have f1:=Blk.frozen R5.out 1;go_wp2_with fail;refine bodyPost_ret (v:=.tuple #[.agg #[.slice ue (Fd.z7i s.es l).length ce,.slice ur s.rd.length cr],.int .i64 (Fd.newE (Fd.z7i s.es l) s.es),.int .i64 0]) (by simp[results,results12,go_sem, *]) rfl ?_;refine z0g.ok HE.out ((B5.out.setCell (p:=⟨X + 2,0,none⟩) (by show _≤X + 2;omega) _).setCell (p:=⟨X + 2,1,none⟩) (by show _≤X + 2;omega) _) ?_;exact SV.out.stored2 R4.out.lt B4.out.size
 have HS3:=Ld (HS2.out.trans (if_neg hk1));have hkb:(a.kind == 1)=false:=beq_eq_false_iff_ne.2 hk1;clear HS2;have x0:w3.cell? ⟨X,0,none⟩=some (.slice aoe s.es.length cape):=Blk.cell X3.out 0;have x1:w3.cell? ⟨X,1,none⟩=some (.slice aor s.rd.length capr):=Blk.cell X3.out 1;have HSV3:Hid (ShV w3 (fun b=>b < w3.heap.size) (.slice aoe s.es.length cape) (.slice aor s.rd.length capr) s):=⟨(HV.out.1.below HK.out B3.out).frame (fun b q=>⟨Nat.lt_of_lt_of_le (HK.out b q) B3.out.size,rfl⟩),(HV.out.2.below HK.out B3.out).frame (fun b q=>⟨Nat.lt_of_lt_of_le (HK.out b q) B3.out.size,rfl⟩)⟩
 by_cases hk4:a.kind=4
 ·as_aux_lemma =>
  have HE:=Ld (HS3.out.trans (if_pos hk4));have hk4b:(a.kind == 4)=true:=beq_iff_eq.2 hk4;have HDP:=Ld (j7b s _ _ (fun b=>b < w3.heap.size) w3 (HG.out.below B3.out hlt) HSV3.out (fun b q=>q) HCS.out);clear HS3 hk1 hk4;go_wp2_with fail;refine HDP.out.mono ?_;rintro e w5 ⟨hb5,ue',ur',rfl,hsv⟩;obtain⟨ue,ur,ce,cr,hue,hur⟩:=hsv.slices;subst hue;subst hur;have B5:=Ld (B3.out.trans (hb5.mono B3.out.size));have R5:=Ld (Blk.call R3.out hb5);have SV:=Ld hsv;clear hb5 HDP hsv x0 x1 X3 HSV3 y0 y1 y2;have r0:w5.cell? ⟨X + 2,0,none⟩=some (.slice none 0 0):=Blk.cell R5.out 0;have r1:w5.cell? ⟨X + 2,1,none⟩=some (.slice none 0 0):=Blk.cell R5.out 1;have f0:=Blk.frozen R5.out 0;have f1:=Blk.frozen R5.out 1;go_wp2_with fail;refine bodyPost_ret (v:=.tuple #[.agg #[.slice ue (Fd.z96 s).es.length ce,.slice ur (Fd.z96 s).rd.length cr],.int .i64 ((s.es.length:Int) - (Fd.z96 s).es.length),.int .i64 0]) (by simp[results,results12,go_sem, *]) rfl ?_;refine z0g.ok HE.out ((B5.out.setCell (p:=⟨X + 2,0,none⟩) (by show _≤X + 2;omega) _).setCell (p:=⟨X + 2,1,none⟩) (by show _≤X + 2;omega) _) ?_;exact SV.out.stored2 R3.out.lt B3.out.size
 ·as_aux_lemma =>
  have HS4:=Ld (HS3.out.trans (if_neg hk4));have hk4b:(a.kind == 4)=false:=beq_eq_false_iff_ne.2 hk4;have HMK:=Ld (j7c s a.text (decide (a.kind=2)) _ _ (fun b=>b < w3.heap.size) w3 (HG.out.below B3.out hlt) HSV3.out (fun b q=>q) HCS.out);have hk2:(a.kind == 2)=decide (a.kind=2):=by rw[Bool.eq_iff_iff,beq_iff_eq,decide_eq_true_iff]
  generalize decide (a.kind=2)=rb at HMK HS4 hk2;generalize Fd.z3t s a.text rb=m at HMK HS4;obtain⟨t,c⟩:=m;clear HS3 hk1 hk4;go_wp2_with fail;refine HMK.out.mono ?_;rintro e w5 ⟨hb5,ue',ur',rfl,hsv⟩;obtain⟨ue,ur,ce,cr,hue,hur⟩:=hsv.slices;subst hue;subst hur;have B5:=Ld (B3.out.trans (hb5.mono B3.out.size));have R5:=Ld (Blk.call R3.out hb5);have SV:=Ld hsv;clear hb5 HMK hsv x0 x1 X3 HSV3 y0 y1 y2
  by_cases hc0:c=0
  case neg =>
   have HE:Hid (Fd.stepS Fd.X0 s a=(Fd.Sh.none,0,c)):=by show _=_;rw[HS4.out,if_pos hc0]
   have HON:=Ld (dk_one1 ue ur t.es.length ce t.rd.length cr c hc0 w5);clear HS4 hc0;go_wp2_with fail;refine HON.out.mono ?_;rintro e w6 ⟨rfl,hb6⟩;have B6:=Ld (B5.out.trans (hb6.mono B5.out.size));have R6:=Ld (Blk.call R5.out hb6);clear hb6 HON;have r0:w6.cell? ⟨X + 2,0,none⟩=some (.slice none 0 0):=Blk.cell R6.out 0;have r1:w6.cell? ⟨X + 2,1,none⟩=some (.slice none 0 0):=Blk.cell R6.out 1;have f0:=Blk.frozen R6.out 0;have f1:=Blk.frozen R6.out 1;go_wp2_with fail;refine bodyPost_ret (v:=.tuple #[.agg #[.slice none 0 0,.slice none 0 0],.int .i64 0,.int .i64 c]) (by simp[results,results12,go_sem, *]) rfl ?_;exact z0g.er HE.out ((B6.out.setCell (p:=⟨X + 2,0,none⟩) (by show _≤X + 2;omega) _).setCell (p:=⟨X + 2,1,none⟩) (by show _≤X + 2;omega) _)
  subst hc0;have HE:=Ld (HS4.out.trans (if_neg (by decide)));have HON:=Ld (dk_one0 ue ur t.es.length ce t.rd.length cr w5);clear HS4;go_wp2_with fail;refine HON.out.mono ?_;rintro e w6 ⟨rfl,hb6⟩;have B6:=Ld (B5.out.trans (hb6.mono B5.out.size));have R6:=Ld (Blk.call R5.out hb6);have SV6:Hid (ShV w6 (fun b=>w3.heap.size≤b∧b < w6.heap.size) (.slice ue t.es.length ce) (.slice ur t.rd.length cr) t):=⟨SV.out.1.frame (fun b q=>⟨⟨q.1,Nat.lt_of_lt_of_le q.2 hb6.size⟩,hb6.block b q.2⟩),SV.out.2.frame (fun b q=>⟨⟨q.1,Nat.lt_of_lt_of_le q.2 hb6.size⟩,hb6.block b q.2⟩)⟩;clear hb6 HON SV;have r0:w6.cell? ⟨X + 2,0,none⟩=some (.slice none 0 0):=Blk.cell R6.out 0;have r1:w6.cell? ⟨X + 2,1,none⟩=some (.slice none 0 0):=Blk.cell R6.out 1;have f0:=Blk.frozen R6.out 0;have f1:=Blk.frozen R6.out 1;go_wp2_with fail;refine bodyPost_ret (v:=.tuple #[.agg #[.slice ue t.es.length ce,.slice ur t.rd.length cr],.int .i64 1,.int .i64 0]) (by simp[results,results12,go_sem, *]) rfl ?_;refine z0g.ok HE.out ((B6.out.setCell (p:=⟨X + 2,0,none⟩) (by show _≤X + 2;omega) _).setCell (p:=⟨X + 2,1,none⟩) (by show _≤X + 2;omega) _) ?_;exact SV6.out.stored2 R3.out.lt B3.out.size
theorem ShV.set2 {w:World} {B B' R:Nat} {ve vr v0 v1:Value} {s:Fd.Sh} (h:ShV w (fun b=>B≤b∧b < w.heap.size) ve vr s) (hB:B'≤B∧R < B):ShV ((w.setCell ⟨R,0,none⟩ v0).setCell ⟨R,1,none⟩ v1) (fun b=>B'≤b∧b < ((w.setCell ⟨R,0,none⟩ v0).setCell ⟨R,1,none⟩ v1).heap.size) ve vr s:=by
 have hk:∀ b,B≤b∧b < w.heap.size→(B'≤b∧b < ((w.setCell ⟨R,0,none⟩ v0).setCell ⟨R,1,none⟩ v1).heap.size)∧((w.setCell ⟨R,0,none⟩ v0).setCell ⟨R,1,none⟩ v1).heap[b]? = w.heap[b]?:=fun b q=>⟨⟨by omega,by simp;exact q.2⟩,(Below.heap_setCell _ ⟨R,1,none⟩ _ b (by show b ≠ R;omega)).trans (Below.heap_setCell _ ⟨R,0,none⟩ _ b (by show b ≠ R;omega))⟩
 exact⟨h.1.frame hk,h.2.frame hk⟩
def z7m (l:List Int):List Value:=l.map (.int .i64 ·)
theorem j1m (a b:List Int):z7m (a++b)=z7m a++z7m b:=by simp[z7m]
theorem Tryz.infoErrno:(prog.info? 28).map (fun i=>(i.zero,i.size,i.bytes))=some (some (.int .i64 0),1,8):=by kernel_rfl
structure CkI (w wx:World) (M:Nat) (ue ur vd:Value) (s:Fd.Sh) (l:List Int):Prop where
 ml:w.heap.size≤M
 mb:Blk wx M 76 #[ue,ur,vd]
 be:Below w.heap.size w wx
 sv:ShV wx (fun b=>w.heap.size≤b∧b < wx.heap.size∧b ≠ M∧vd.ownBlock ≠ some b) ue ur s
 od:wx.ownsRow w.heap.size 28 1 vd l.length (z7m l)
 nd:vd.ownBlock ≠ some M
theorem CkI.below {w wx wy:World} {M:Nat} {ue ur vd:Value} {s:Fd.Sh} {l:List Int} (h:CkI w wx M ue ur vd s l) (hb:Below wx.heap.size wx wy):CkI w wy M ue ur vd s l :=
 ⟨h.ml,Blk.below h.mb hb h.mb.lt,h.be.trans (hb.mono h.be.size),⟨h.sv.1.frame (fun b q=>⟨⟨q.1,Nat.lt_of_lt_of_le q.2.1 hb.size,q.2.2⟩,hb.block b q.2.1⟩),h.sv.2.frame (fun b q=>⟨⟨q.1,Nat.lt_of_lt_of_le q.2.1 hb.size,q.2.2⟩,hb.block b q.2.1⟩)⟩,V7 h.od (fun g q=>hb.block g (h.od.lt g q).2),h.nd⟩
theorem CkI.put {w wx:World} {M:Nat} {ue ur vd:Value} {s:Fd.Sh} {l:List Int} (h:CkI w wx M ue ur vd s l) {ve vr:Value} {t:Fd.Sh} (hv:ShV wx (fun b=>w.heap.size≤b∧b < wx.heap.size∧b ≠ M∧vd.ownBlock ≠ some b) ve vr t):CkI w ((wx.setCell ⟨M,0,none⟩ ve).setCell ⟨M,1,none⟩ vr) M ve vr vd t l:=by
 have hb:Below w.heap.size w ((wx.setCell ⟨M,0,none⟩ ve).setCell ⟨M,1,none⟩ vr):=(h.be.setCell (p:=⟨M,0,none⟩) h.ml _).setCell (p:=⟨M,1,none⟩) h.ml _;have hk:∀ b,b ≠ M→((wx.setCell ⟨M,0,none⟩ ve).setCell ⟨M,1,none⟩ vr).heap[b]? = wx.heap[b]?:=fun b hb=>(Below.heap_setCell _ ⟨M,1,none⟩ _ b hb).trans (Below.heap_setCell _ ⟨M,0,none⟩ _ b hb)
 have hs:((wx.setCell ⟨M,0,none⟩ ve).setCell ⟨M,1,none⟩ vr).heap.size=wx.heap.size:=by simp
 refine⟨h.ml,Blk.set_ (Blk.set_ h.mb 0 _) 1 _,hb,⟨hv.1.frame (fun b q=>⟨⟨q.1,by rw[hs];exact q.2.1,q.2.2⟩,hk b q.2.2.1⟩),hv.2.frame (fun b q=>⟨⟨q.1,by rw[hs];exact q.2.1,q.2.2⟩,hk b q.2.2.1⟩)⟩,?_,h.nd⟩;exact ownsRow_setCell_other (ownsRow_setCell_other h.od (a:=⟨M,0,none⟩) h.nd _) (a:=⟨M,1,none⟩) h.nd _
theorem CkI.add {w wx wy:World} {M:Nat} {ue ur vd vd':Value} {s:Fd.Sh} {l l':List Int} (h:CkI w wx M ue ur vd s l) (hg:wx.grownBy wy vd.ownBlock) (ho:wy.ownsRow w.heap.size 28 1 vd' l'.length (z7m l')) (hn:vd'.ownBlock=vd.ownBlock∨∃ g,vd'.ownBlock=some g∧wx.heap.size≤g):CkI w (wy.setCell ⟨M,2,none⟩ vd') M ue ur vd' s l':=by
 have hnd:vd'.ownBlock ≠ some M:=fun e=>by
  rcases hn with q | ⟨g,q,hq⟩
  ·exact h.nd (by rw[← q];exact e)
  ·rw[q] at e;injection e with e;have:=h.mb.lt;omega
 have hMy:Blk wy M 76 #[ue,ur,vd]:=Blk.grown h.mb hg (fun e=>h.nd e.symm);have hby:Below w.heap.size w wy:=h.be.grown hg h.be.size (fun k hk=>(h.od.lt k hk).1);have hs:(wy.setCell ⟨M,2,none⟩ vd').heap.size=wy.heap.size:=by simp
 have hk:∀ b,w.heap.size≤b∧b < wx.heap.size∧b ≠ M∧vd.ownBlock ≠ some b→(w.heap.size≤b∧b < (wy.setCell ⟨M,2,none⟩ vd').heap.size∧b ≠ M∧vd'.ownBlock ≠ some b)∧(wy.setCell ⟨M,2,none⟩ vd').heap[b]? = wx.heap[b]?:=by
  rintro b ⟨q0,q⟩;refine⟨⟨q0,by rw[hs];exact Nat.lt_of_lt_of_le q.1 hg.size,q.2.1,fun e=>?_⟩,(Below.heap_setCell _ ⟨M,2,none⟩ _ b q.2.1).trans (hg.block b q.1 (fun e=>q.2.2 e.symm))⟩
  rcases hn with r | ⟨g,r,hr⟩
  ·exact q.2.2 (by rw[← r];exact e)
  ·rw[r] at e;injection e with e;have:=q.1;omega
 exact⟨h.ml,Blk.set_ hMy 2 _,hby.setCell (p:=⟨M,2,none⟩) h.ml _,⟨h.sv.1.frame hk,h.sv.2.frame hk⟩,ownsRow_setCell_other ho (a:=⟨M,2,none⟩) hnd _,hnd⟩
theorem dk_do (s:Fd.Sh) (l:List Int) (a:Fd.Ac) (M:Nat) (ue ur vd:Value) (w0 w:World) (hg:Gl w) (hc:CkI w0 w M ue ur vd s l) (hid:∀ x ∈ s.es,x.id.length≤1048576) (hl:l.length≤1000) :
  Calls prog 37 #[.pointer (some ⟨M,0,none⟩),acV a] w fun e w'=>e=.returned (.tuple #[])∧∃ ve vr vd',CkI w0 w' M ve vr vd' (Fd.doS Fd.X0 (s,l) a).1 (Fd.doS Fd.X0 (s,l) a).2:=by
 have hMlt:=hc.mb.lt;have hG1:=hg;obtain⟨aoe,aor,ce,cr,rfl,rfl⟩:=hc.sv.slices;obtain⟨ao,cap,rfl⟩:=Z9 hc.od;have AL:=(Below.refl w.heap.size w).alloc (Lr) (.cells #[.int .i64 a.kind,.string (st a.text),.string (st a.base)] 36);have XB:=Ld (Blk.new w 36 #[.int .i64 a.kind,.string (st a.text),.string (st a.base)]);have C1:=Ld (hc.below AL);have HG:=Ld (hg.below AL hg.lt);have HID:=Ld hid;have hst:∀ l:List UInt8,(st l).toList=l:=fun l=>Lib.toList_data _
 clear hg hc AL hid hG1;unfold acV;go_enter func37,ntmps37;go_upto_region 1 with fail;obtain⟨X,hX⟩:∃ X,X=w.heap.size:=⟨_,rfl⟩;rw[← hX] at XB;rw[← hX];generalize w.alloc (.cells #[.int .i64 a.kind,.string (st a.text),.string (st a.base)] 36)=w1 at C1 XB HG ⊢;clear hX hMlt;have HSW:Hid (∀ W,Below w1.heap.size w1 W→(W.cell? ⟨M,0,none⟩=some (.slice aoe s.es.length ce)∧W.cell? ⟨M,1,none⟩=some (.slice aor s.rd.length cr))∧(W.cell? ⟨X,0,none⟩=some (.int .i64 a.kind)∧W.cell? ⟨X,1,none⟩=some (.string (st a.text))∧W.cell? ⟨X,2,none⟩=some (.string (st a.base)))):=by
  intro W hW;have hm:=(C1.out.below hW).mb;have hx:=Blk.below XB.out hW XB.out.lt;exact⟨⟨Blk.cell hm 0,Blk.cell hm 1⟩,Blk.cell hx 0,Blk.cell hx 1,Blk.cell hx 2⟩
 have HSTEP:Hid (∀ W,Below w1.heap.size w1 W→Calls prog 12 #[.agg #[.slice aoe s.es.length ce,.slice aor s.rd.length cr],.agg #[.int .i64 a.kind,.string (st a.text),.string (st a.base)]] W fun e w'=>z0g s a W e w'):=by
  intro W hW;exact q47 s a _ _ _ W (HG.out.below hW HG.out.lt) (C1.out.below hW).sv (fun b q=>q.2.1) HID.out
 obtain⟨⟨t,n,c⟩,hstep⟩:∃ y,y=Fd.stepS Fd.X0 s a:=⟨_,rfl⟩;have HE:Hid (Fd.doS Fd.X0 (s,l) a=(if c=0 then t else s,l++[c])):=by
  show _=_;unfold Fd.doS;rw[← hstep]
 unfold z0g at HSTEP;rw[← hstep] at HSTEP;clear hstep
 go_cut [4,5,6] (fun p q r wx=>∃ R ve vr,p=.pointer (some ⟨R,0,none⟩)∧q=.int .i64 n∧r=.int .i64 c∧w1.heap.size≤R∧Hid (Below w1.heap.size w1 wx)∧Hid (Blk wx R 26 #[ve,vr])∧Hid (ShV wx (fun b=>w1.heap.size≤b∧b < wx.heap.size) ve vr t))
 case first =>
  go_region_held3 (fun W=>(W.cell? ⟨M,0,none⟩=some (.slice aoe s.es.length ce)∧W.cell? ⟨M,1,none⟩=some (.slice aor s.rd.length cr))∧(W.cell? ⟨X,0,none⟩=some (.int .i64 a.kind)∧W.cell? ⟨X,1,none⟩=some (.string (st a.text))∧W.cell? ⟨X,2,none⟩=some (.string (st a.base)))) (first
   | exact HSW.out _ (((hB5.alloc hB5.size _).setCell (p:=⟨_,0,none⟩) hB5.size _).setCell (p:=⟨_,1,none⟩) hB5.size _)
   | exact HSW.out _ ((hB5.setCell (p:=⟨_,0,none⟩) (Lr) _).setCell (p:=⟨_,1,none⟩) (Lr) _)
   | exact HSW.out _ (hB5.alloc hB5.size _)
   | exact HSW.out _ hB5
   | exact HSW.out _ ((Below.refl _ _).alloc (Lr) _).drew
   | exact HSW.out _ (Below.refl _ _).drew
   | exact HSW.out _ (Below.refl _ _)) (first
   | (go_at_call 12;(with_reducible refine(HSTEP.out _ ?_).mono ?_);(first | exact(Below.refl _ _).drew | exact((Below.refl _ _).alloc (Lr) _).drew);rintro e w5 ⟨hb5,aoe',aor',ce',cr',rfl,hsv⟩;(first | (have hB5:Below w1.heap.size w1 w5:=((Below.refl _ w1).drew).trans (hb5.mono (Lr))) | (have hB5:Below w1.heap.size w1 w5:=(((Below.refl _ w1).alloc (Lr) _).drew).trans (hb5.mono (by simp))));(try (have hR5:=Blk.call (Blk.drew (Blk.new w1 26 #[.slice none 0 0,.slice none 0 0])) hb5;have r0:=Blk.cell hR5 0;have r1:=Blk.cell hR5 1;have f0:=Blk.frozen hR5 0;have f1:=Blk.frozen hR5 1))))
  all_goals
   go_wp2_with fail;go_meet
   case rel =>
    first
     | exact⟨_,_,_,rfl,rfl,rfl,hB5.size,hB5.alloc hB5.size _,Blk.new w5 _ _,hsv.1.frame (fun b q=>⟨⟨q.1,Nat.lt_of_lt_of_le q.2 (by simp)⟩,Below.heap_alloc w5 _ b q.2⟩),hsv.2.frame (fun b q=>⟨⟨q.1,Nat.lt_of_lt_of_le q.2 (by simp)⟩,Below.heap_alloc w5 _ b q.2⟩)⟩
     | exact⟨_,_,_,rfl,rfl,rfl,Lr,(hB5.setCell (p:=⟨w1.heap.size,0,none⟩) (Lr) _).setCell (p:=⟨w1.heap.size,1,none⟩) (Lr) _,Blk.set_ (Blk.set_ hR5 0 _) 1 _,ShV.set2 hsv (by simp)⟩
 case rest =>
 obtain⟨R,ve,vr,rfl,rfl,rfl,hR,HB,HR,HV⟩:=hcut;obtain⟨w6,hw6⟩:∃ z,z=wc:=⟨_,rfl⟩;subst hw6;obtain⟨aoe2,aor2,ce2,cr2,rfl,rfl⟩:=HV.out.slices;have hMl:=C1.out.mb.lt;have HV2:Hid (ShV w6 (fun b=>w0.heap.size≤b∧b < w6.heap.size∧b ≠ M∧(Value.slice ao l.length cap).ownBlock ≠ some b) (.slice aoe2 t.es.length ce2) (.slice aor2 t.rd.length cr2) t):=by
  have hk:∀ b,w1.heap.size≤b∧b < w6.heap.size→(w0.heap.size≤b∧b < w6.heap.size∧b ≠ M∧(Value.slice ao l.length cap).ownBlock ≠ some b)∧w6.heap[b]? = w6.heap[b]?:=fun b q=>⟨⟨Nat.le_trans C1.out.be.size q.1,q.2,by have:=q.1;omega,fun e=>by have:=(C1.out.od.lt b e).2;have:=q.1;omega⟩,rfl⟩
  exact⟨HV.out.1.frame hk,HV.out.2.frame hk⟩
 have C6:=Ld (C1.out.below HB.out);have r0:w6.cell? ⟨R,0,none⟩=some (.slice aoe2 t.es.length ce2):=Blk.cell HR.out 0;have r1:w6.cell? ⟨R,1,none⟩=some (.slice aor2 t.rd.length cr2):=Blk.cell HR.out 1;have m0:w6.cell? ⟨M,0,none⟩=some (.slice aoe s.es.length ce):=Blk.cell C6.out.mb 0;have m1:w6.cell? ⟨M,1,none⟩=some (.slice aor s.rd.length cr):=Blk.cell C6.out.mb 1;have g0:=Blk.frozen C6.out.mb 0;have g1:=Blk.frozen C6.out.mb 1;clear HB HR HV hR C1 XB HG HSW HSTEP HID hMl;go_upto_if 18 with fail
 go_cut [] (fun wz=>∃ ue2 ur2,Hid (CkI w0 wz M ue2 ur2 (.slice ao l.length cap) (if c=0 then t else s) l))
 case first =>
  by_cases hc:c=0
  ·have HC:=Ld hc
   have hcb:(c == 0)=true:=by rw[beq_iff_eq];exact hc
   have CP:=Ld (C6.out.put HV2.out);clear hc;go_wp2_with fail;go_meet
   case rel=>exact⟨_,_,by rw[if_pos HC.out];exact CP⟩
  ·have HC:=Ld hc
   have hcb:(c == 0)=false:=beq_eq_false_iff_ne.2 hc;clear hc;go_wp2_with fail;go_meet
   case rel=>exact⟨_,_,by rw[if_neg HC.out];exact C6⟩
 case rest =>
 clear C6 HV2 r0 r1 m0 m1 g0 g1;obtain⟨ue2,ur2,C7⟩:=hcut;obtain⟨w7,hw7⟩:∃ z,z=wc:=⟨_,rfl⟩;subst hw7;have AL7:=(Below.refl w7.heap.size w7).alloc (Lr) (.cells #[.int .i64 c] 28);have C8:=Ld (C7.out.below AL7);have m2:w7.cell? ⟨M,2,none⟩=some (.slice ao l.length cap):=Blk.cell C7.out.mb 2;have hbs:=C8.out.be.size;have HNEW:Hid (∀ j u,[Value.int .i64 c][j]? = some u→(w7.alloc (.cells #[.int .i64 c] 28)).cell? ((⟨w7.heap.size,0,none⟩:Addr).add j)=some u):=cell_one_new w7 (.int .i64 c) 28;obtain⟨i0,hi,hz0,hz1,hz2⟩:=info_parts Tryz.infoErrno;clear AL7 C7;go_wp2_with (at_builtin;refine J3 rfl _ _ 27 rfl w0.heap.size 28 i0 (.int .i64 0) 1 8 underlying27 hi hz0 hz1 hz2 rfl (by decide) _ _ _ rfl C8.out.od ⟨w7.heap.size,0,none⟩ 1 1 [.int .i64 c] rfl rfl HNEW.out (one_cell _ rfl) (by decide) (by unfold maxLen;omega) (by omega) hbs ?_);intro v' w9 hown' hgrow hfresh;obtain⟨ao',cap',hv'⟩:=Z9 hown';subst hv';have mb9:Blk w9 M 76 #[ue2,ur2,.slice ao l.length cap]:=Blk.grown C8.out.mb hgrow (fun e=>C8.out.nd e.symm);have n2:w9.cell? ⟨M,2,none⟩=some (.slice ao l.length cap):=Blk.cell mb9 2;have g2:=Blk.frozen mb9 2;have C9:Hid (CkI w0 (w9.setCell ⟨M,2,none⟩ (.slice ao' (l.length + 1) cap')) M ue2 ur2 (.slice ao' (l.length + 1) cap') (if c=0 then t else s) (l++[c])):=by
  refine C8.out.add hgrow ?_ ?_
  ·rw[j1m,List.length_append];exact hown'
  ·rcases hfresh with q | q
   ·exact .inl q
   ·exact .inr ⟨_,q,by simp⟩
 clear hown' hgrow hfresh hi hz0 hz1 hz2 mb9 C8 HNEW m2 hbs;go_wp2_with fail
 first | go_end0 | (simp only [Exit.inBlock,Exit.then];refine bodyPost_ret (results_none rfl _ _ _) rfl ?_) | refine bodyPost_ret (results_none rfl _ _ _) rfl ?_
 exact⟨rfl,_,_,_,by rw[HE.out];exact C9.out⟩
end Go.Proofs.YtjonkbdldebkiaaGreatDoor
namespace Fd
theorem j1i {l:List Ac} {k:Nat} (h16:l.length≤16) (hk:k < l.length) (h0:∀ x ∈ l.take k,z0w x=0) (he:z0w l[k] ≠ 0):z2q l=z0w l[k]:=by
 unfold z2q;rw[if_neg (by omega)];have h1:((l.take k).map z0w).find? (fun e=>e != 0)=none:=by
  rw[List.find?_eq_none];intro e h;obtain⟨x,hx,rfl⟩:=List.mem_map.1 h;simp[h0 x hx]
 have h2:l.drop k=l[k] :: l.drop (k + 1):=List.drop_eq_getElem_cons hk
 conv=>lhs;rw[← List.take_append_drop k l]
 rw[h2,List.map_append,List.find?_append,h1,List.map_cons,List.find?_cons_of_pos (by simp;exact he)];rfl
theorem j4r {l:List Ac} (h16:l.length≤16) (h0:∀ x ∈ l,z0w x=0):z2q l=0:=by
 unfold z2q;rw[if_neg (by omega)];have h1:(l.map z0w).find? (fun e=>e != 0)=none:=by
  rw[List.find?_eq_none];intro e h;obtain⟨x,hx,rfl⟩:=List.mem_map.1 h;simp[h0 x hx]
 rw[h1];rfl
theorem q2m {l:List Ac} (h:16 < l.length):z2q l=2:=by unfold z2q;rw[if_pos h]
theorem q2n {l:List Ac} (h:z2q l=0):l.length≤16:=by
 apply Nat.le_of_not_lt
 intro q;rw[q2m q] at h
 cases h
end Fd
namespace Go.Proofs.YtjonkbdldebkiaaGreatDoor
open Go.Proofs.Tryz Go.RowKit
def acCs (x:Fd.Ac):List Value:=[.int .i64 x.kind,.string (st x.text),.string (st x.base)]
def z0v (l:List Fd.Ac):List Value:=l.flatMap acCs
def z7g (w:World) (K:Nat→Prop) (v:Value) (l:List Fd.Ac):Prop:=∃ ao cap,v=.slice ao l.length cap∧z19 w K ao (z0v l)∧l.length≤cap∧l.length≤maxLen
theorem z7g.frame {w w':World} {K K':Nat→Prop} {v:Value} {l:List Fd.Ac} (h:z7g w K v l) (hk:∀ b,K b→K' b∧w'.heap[b]? = w.heap[b]?):z7g w' K' v l:=by
 obtain⟨ao,cap,h1,h2,h3⟩:=h;exact⟨ao,cap,h1,h2.frame hk,h3⟩
theorem z7g.below {w w':World} {K:Nat→Prop} {v:Value} {l:List Fd.Ac} {B:Nat} (h:z7g w K v l) (hK:∀ b,K b→b < B) (hb:Below B w w'):z7g w' K v l:=h.frame fun b q=>⟨q,hb.block b (hK b q)⟩
theorem q7l (l:List Fd.Ac):(z0v l).length=l.length * 3:=by
 induction l with
 | nil=>rfl
 | cons a t ih=>rw[show z0v (a :: t)=acCs a++z0v t from rfl,List.length_append,ih,List.length_cons];simp[acCs];omega
theorem q7k (l:List Fd.Ac) (k:Nat) (h:k < l.length):(z0v l)[k * 3]? = some (.int .i64 l[k].kind)∧(z0v l)[k * 3 + 1]? = some (.string (st l[k].text))∧(z0v l)[k * 3 + 2]? = some (.string (st l[k].base)):=by
 induction l generalizing k with
 | nil=>simp at h
 | cons a t ih =>
  cases k with
  | zero=>exact⟨rfl,rfl,rfl⟩
  | succ k =>
   have h':k < t.length:=by simpa using h
   have e:z0v (a :: t)=acCs a++z0v t:=rfl;have e5:(acCs a).length=3:=rfl;rw[e,show (k + 1) * 3=k * 3 + 3 by omega];obtain⟨h1,h2,h3⟩:=ih k h';refine⟨?_,?_,?_⟩
   ·rw[List.getElem?_append_right (by omega),e5];simpa using h1
   ·rw[List.getElem?_append_right (by omega),e5,show k * 3 + 3 + 1 - 3=k * 3 + 1 by omega];simpa using h2
   ·rw[List.getElem?_append_right (by omega),e5,show k * 3 + 3 + 2 - 3=k * 3 + 2 by omega];simpa using h3
theorem q0e {w:World} {K:Nat→Prop} {ao:Option Addr} {n cap:Nat} {l:List Fd.Ac} (h:z7g w K (.slice ao n cap) l) (k:Nat) (hk:k < l.length):∃ g o,ao=some ⟨g,o,none⟩∧K g∧w.cell? ⟨g,o + k * 3,none⟩=some (.int .i64 l[k].kind)∧w.cell? ⟨g,o + k * 3 + 1,none⟩=some (.string (st l[k].text))∧w.cell? ⟨g,o + k * 3 + 2,none⟩=some (.string (st l[k].base)):=by
 obtain⟨ao',cap',h1,h2,_⟩:=h;injection h1 with e1 _ _;subst e1
 rcases h2 with h2 | ⟨g,o,h3,h4,h5⟩
 ·have:=q7l l;rw[h2] at this;simp at this;omega
 ·obtain⟨e1,e2,e3⟩:=q7k l k hk
  exact⟨g,o,h3,h4,h5 _ _ e1,by rw[Nat.add_assoc];exact h5 _ _ e2,by rw[Nat.add_assoc];exact h5 _ _ e3⟩
theorem q46 (l:List Fd.Ac) (v:Value) (K:Nat→Prop) (w:World) (hv:z7g w K v l) (hK:∀ b,K b→b < w.heap.size) :
  Calls prog 11 #[v] w fun e w'=>e=.returned (.int .i64 (Fd.z2q l))∧Below w.heap.size w w':=by
 obtain⟨ao,cap,rfl,_,_,hmx⟩:=id hv;have HV:=Ld hv;have HK:=Ld hK;clear hv hK
 by_cases h16:16 < l.length
 ·have HE:=Ld (Fd.q2m h16)
  have h16i:(16:Int) < l.length:=by omega
  have hb:=Ld (Below.refl w.heap.size w);go_enter func11,ntmps11;go_wp2_with fail;go_ret;exact⟨V5 HE.out.symm,hb.out⟩
 have h16i:¬ (16:Int) < l.length:=by omega
 have hle:l.length≤16:=by omega
 go_enter func11,ntmps11;go_wp2_with fail
 go_loopw [11] (fun i wr=>∃ k:Nat,k≤l.length∧i=.int .i64 k∧Hid (∀ x ∈ l.take k,Fd.z0w x=0)∧Hid (Below w.heap.size w wr)) (fun i _=>l.length - (intOf i).toNat)
 case atStart=>exact⟨0,Nat.zero_le _,rfl,fun x h=>by simp at h,Below.refl _ _⟩
 case round =>
  obtain⟨k,hk,rfl,HO,BL⟩:=hrel
  by_cases hlt:k < l.length
  ·obtain⟨g,o,rfl,hKg,c0,c1,c2⟩:=q0e HV.out k hlt
   have hgl:=HK.out g hKg;rw[← BL.out.cell (p:=⟨g,_,none⟩) hgl] at c0 c1 c2;have hlti:(k:Int) < l.length:=by omega
   have hk0:(0:Int)≤k:=by omega
   have HTK:Hid (l.take (k + 1)=l.take k++[l[k]]):=List.take_succ_eq_append_getElem hlt;have HER:=Ld (Fd.j1i hle hlt HO.out);obtain⟨x,hx⟩:∃ x,l[k]=x:=⟨_,rfl⟩;rw[hx] at c0 c1 c2 HTK HER;have AL:=(Below.refl wr.heap.size wr).alloc (Lr) (.cells #[.int .i64 x.kind,.string (st x.text),.string (st x.base)] 36);have B2:=Ld (BL.out.trans (AL.mono BL.out.size));have HAC:=Ld (dk_act x (wr.alloc (.cells #[.int .i64 x.kind,.string (st x.text),.string (st x.base)] 36)));unfold acV at HAC;clear AL BL hx;go_wp2_with fail;refine HAC.out.mono ?_;rintro e w4 ⟨rfl,hb4⟩;have B4:=Ld (B2.out.trans (hb4.mono B2.out.size));clear HAC hb4
   by_cases hz:Fd.z0w x=0
   ·have HZ:=Ld hz
    have hzb:(Fd.z0w x == 0)=true:=by rw[beq_iff_eq];exact hz
    clear hz HER;have HO2:Hid (∀ z ∈ l.take (k + 1),Fd.z0w z=0):=by
     intro z h;rw[HTK.out,List.mem_append] at h
     rcases h with h | h
     ·exact HO.out z h
     ·rw[List.mem_singleton.1 h];exact HZ.out
    clear HO HTK;go_wp2_with fail;go_roundw
    case rel=>exact⟨k + 1,by omega,by go_num,HO2.out,B4.out⟩
    case measure=>simp[intOf];omega
   ·have HE:=Ld (HER.out hz)
    have hzb:(Fd.z0w x == 0)=false:=beq_eq_false_iff_ne.2 hz;clear hz HER;go_wp2_with fail;go_ret;exact⟨V5 HE.out.symm,B4.out⟩
  ·have HE:Hid (Fd.z2q l=0):=Fd.j4r hle (by have h:=HO.out;rw[List.take_of_length_le (by omega)] at h;exact h)
   clear HO;go_wp2_with fail;go_ret;exact⟨V5 HE.out.symm,BL.out⟩
def z6c (w:World) (K:Nat→Prop) (v:Value) (l:List Int):Prop:=∃ ao cap,v=.slice ao l.length cap∧z19 w K ao (z7m l)∧l.length≤cap∧l.length≤maxLen
theorem z6c.frame {w w':World} {K K':Nat→Prop} {v:Value} {l:List Int} (h:z6c w K v l) (hk:∀ b,K b→K' b∧w'.heap[b]? = w.heap[b]?):z6c w' K' v l:=by
 obtain⟨ao,cap,h1,h2,h3⟩:=h;exact⟨ao,cap,h1,h2.frame hk,h3⟩
theorem q2s {w:World} {K:Nat→Prop} {ao:Option Addr} {n cap:Nat} {l:List Int} (h:z6c w K (.slice ao n cap) l) (k:Nat) (hk:k < l.length):∃ g o,ao=some ⟨g,o,none⟩∧K g∧w.cell? ⟨g,o + k,none⟩=some (.int .i64 l[k]):=by
 obtain⟨ao',cap',h1,h2,_⟩:=h;injection h1 with e1 _ _;subst e1
 rcases h2 with h2 | ⟨g,o,h3,h4,h5⟩
 ·have:(z7m l).length=l.length:=by simp[z7m]
  rw[h2] at this;simp at this;omega
 ·exact⟨g,o,h3,h4,h5 _ _ (by simp[z7m,hk])⟩
def q7j (l:List Fd.Ac) (w:World) (e:Ending) (w':World):Prop:=Below w.heap.size w w'∧∃ aoe aor aod ce cr cd,∃ x:Fd.Sh × List Int,x=(if Fd.z2q l=0 then Fd.runS Fd.X0 l else (Fd.Sh.none,[]))∧e=.returned (.tuple #[.agg #[.slice aoe x.1.es.length ce,.slice aor x.1.rd.length cr],.slice aod x.2.length cd,.int .i64 (Fd.z2q l)])∧ShV w' (fun b=>b < w'.heap.size) (.slice aoe x.1.es.length ce) (.slice aor x.1.rd.length cr) x.1∧z6c w' (fun b=>b < w'.heap.size) (.slice aod x.2.length cd) x.2
theorem CkI.codes {w wx:World} {M:Nat} {ue ur vd:Value} {s:Fd.Sh} {l:List Int} (h:CkI w wx M ue ur vd s l):z6c wx (fun b=>w.heap.size≤b∧b < wx.heap.size) vd l:=by
 obtain⟨ao,cap,h1,h2,h3⟩:=z19.of_own (K:=fun b=>w.heap.size≤b∧b < wx.heap.size) h.od (fun g q=>h.od.lt g q);exact⟨ao,cap,h1,h2,h3⟩
theorem z6c.nil (w:World) (K:Nat→Prop):z6c w K (.slice none 0 0) []:=⟨none,0,rfl,.inl rfl,Lr,Nat.zero_le _⟩
theorem dk_Run (l:List Fd.Ac) (v:Value) (K:Nat→Prop) (w:World) (hg:Gl w) (hv:z7g w K v l) (hK:∀ b,K b→b < w.heap.size) :
  Calls prog 8 #[v] w fun e w'=>q7j l w e w':=by
 obtain⟨ao,cap,rfl,_,_,hmx⟩:=id hv;have hlt:=hg.lt;have AL1:=(Below.refl w.heap.size w).alloc (Lr) (.cells #[.slice none 0 0,.slice none 0 0] 26);have RB:=Ld (Blk.new w 26 #[.slice none 0 0,.slice none 0 0]);have HV:=Ld (hv.below hK AL1);have HK:Hid (∀ b,K b→b < w.heap.size):=hK;have B1:=Ld AL1;have HG:=Ld (hg.below AL1 hlt);have hRl:w.heap.size < (w.alloc (.cells #[.slice none 0 0,.slice none 0 0] 26)).heap.size:=by simp
 have HCK:=Ld (q46 l _ K _ HV.out (fun b q=>Nat.lt_trans (hK b q) hRl));obtain⟨c,hcc⟩:∃ c,Fd.z2q l=c:=⟨_,rfl⟩;rw[hcc] at HCK;have HCC:=Ld hcc;clear hg hv hK AL1 hlt hcc;go_enter func8,ntmps8;go_upto_region 1 with fail;obtain⟨R,hR⟩:∃ R,R=w.heap.size:=⟨_,rfl⟩;rw[← hR] at RB hRl;rw[← hR];have hRw:w.heap.size≤R:=by omega
 generalize w.alloc (.cells #[.slice none 0 0,.slice none 0 0] 26)=w1 at HV B1 HG HCK RB hRl ⊢;clear hR;go_wp2_with fail;refine HCK.out.mono ?_;rintro e w2 ⟨rfl,hb2⟩;have B2:=Ld (B1.out.trans (hb2.mono B1.out.size));have R2:=Ld (Blk.call RB.out hb2);have HG2:=Ld (HG.out.below hb2 HG.out.lt);have HV2:Hid (z7g w2 K (.slice ao l.length cap) l):=HV.out.below (fun b q=>Nat.lt_of_lt_of_le (HK.out b q) B1.out.size) hb2;have hR2:R < w2.heap.size:=Nat.lt_of_lt_of_le hRl hb2.size;clear HCK hb2 RB HG HV B1 hRl
 by_cases hz:c=0
 case neg =>
  have HX:Hid ((Fd.Sh.none,[])=(if Fd.z2q l=0 then Fd.runS Fd.X0 l else (Fd.Sh.none,[])))  :=(if_neg (by rw[HCC.out];exact hz)).symm;have hzb:(c == 0)=false:=beq_eq_false_iff_ne.2 hz;have r0:w2.cell? ⟨R,0,none⟩=some (.slice none 0 0):=Blk.cell R2.out 0;have r1:w2.cell? ⟨R,1,none⟩=some (.slice none 0 0):=Blk.cell R2.out 1;have f0:=Blk.frozen R2.out 0;have f1:=Blk.frozen R2.out 1;clear hz;go_wp2_with fail;refine bodyPost_ret (v:=.tuple #[.agg #[.slice none 0 0,.slice none 0 0],.slice none 0 0,.int .i64 c]) (by simp[results,results8,go_sem, *]) rfl ?_;exact⟨(B2.out.setCell (p:=⟨R,0,none⟩) hRw _).setCell (p:=⟨R,1,none⟩) hRw _,none,none,none,0,0,0,_,HX.out,by rw[HCC.out];rfl,ShV.emp _ _,z6c.nil _ _⟩
 subst hz;have hlen:=Fd.q2n HCC.out;have HX:Hid (Fd.runS Fd.X0 l=(if Fd.z2q l=0 then Fd.runS Fd.X0 l else (Fd.Sh.none,[]))):=(if_pos HCC.out).symm;go_upto_region 5 with fail;obtain⟨M,hM⟩:∃ M,M=w2.heap.size:=⟨_,rfl⟩;have C3:Hid (CkI w2 (w2.alloc (.cells #[.slice none 0 0,.slice none 0 0,.slice none 0 0] 76)) M (.slice none 0 0) (.slice none 0 0) (.slice none 0 0) Fd.Sh.none []):=by
  rw[hM];exact⟨Lr,Blk.new _ _ _,(Below.refl w2.heap.size w2).alloc (Lr) _,ShV.emp _ _,⟨rfl,.inl ⟨rfl,rfl⟩⟩,fun e=>by cases e⟩
 rw[← hM];generalize w2.alloc (.cells #[.slice none 0 0,.slice none 0 0,.slice none 0 0] 76)=w3 at C3 ⊢;have hMR:M ≠ R:=by omega
 clear hM;go_wp2_with fail
 go_loopw [19] (fun i wr=>∃ k:Nat,k≤l.length∧i=.int .i64 k∧∃ ve vr vd,Hid (CkI w2 wr M ve vr vd (Fd.runS Fd.X0 (l.take k)).1 (Fd.runS Fd.X0 (l.take k)).2)) (fun i _=>l.length - (intOf i).toNat)
 case atStart=>exact⟨0,Nat.zero_le _,rfl,_,_,_,C3⟩
 case round =>
  clear C3;obtain⟨k,hk,rfl,ve,vr,vd,C4⟩:=hrel
  by_cases hkl:k < l.length
  ·obtain⟨g,o,rfl,hKg,c0,c1,c2⟩:=q0e HV2.out k hkl
   have hgl:g < w2.heap.size:=Nat.lt_of_lt_of_le (HK.out g hKg) B2.out.size;rw[← C4.out.be.cell (p:=⟨g,_,none⟩) hgl] at c0 c1 c2;have hkli:(k:Int) < l.length:=by omega
   have hk0:(0:Int)≤k:=by omega
   have HTK:Hid (Fd.runS Fd.X0 (l.take (k + 1))=Fd.doS Fd.X0 (Fd.runS Fd.X0 (l.take k)) l[k]):=Fd.q56 Fd.X0 l k hkl;have hRR:=Fd.z4x Fd.X0 Fd.z98 (l.take k) (Fd.Sh.none,[]) Fd.z3k;have hr1:Fd.z0e (Fd.runS Fd.X0 (l.take k)).1=0:=hRR.1;have hr2:(Fd.runS Fd.X0 (l.take k)).2.length≤1000:=by
    have h:=hRR.2;have:(Fd.runS Fd.X0 (l.take k)).2.length=0 + (l.take k).length:=h;rw[this,List.length_take];omega
   clear hRR;generalize Fd.runS Fd.X0 (l.take k)=y at C4 HTK hr1 hr2;obtain⟨s,dn⟩:=y;obtain⟨x,hx⟩:∃ x,l[k]=x:=⟨_,rfl⟩;rw[hx] at c0 c1 c2 HTK;have AL:=(Below.refl wr.heap.size wr).alloc (Lr) (.cells #[.int .i64 x.kind,.string (st x.text),.string (st x.base)] 36);have C5:=Ld (C4.out.below AL);have HG5:=Ld (HG2.out.below C5.out.be HG2.out.lt);have HDO:=Ld (dk_do s dn x M ve vr vd w2 (wr.alloc (.cells #[.int .i64 x.kind,.string (st x.text),.string (st x.base)] 36)) HG5.out C5.out (fun z h=>Nat.le_trans (Fd.q21 (((Fd.z01 s).1 hr1).2.2.1.1 z h)).2 (by decide)) hr2);unfold acV at HDO;clear AL C4 C5 HG5 hr1 hr2 hx;go_wp2_with fail;refine HDO.out.mono ?_;rintro e w4 ⟨rfl,ve',vr',vd',C6⟩;have C7:Hid (CkI w2 w4 M ve' vr' vd' (Fd.runS Fd.X0 (l.take (k + 1))).1 (Fd.runS Fd.X0 (l.take (k + 1))).2):=by
    rw[HTK.out];exact C6
   clear HDO C6 HTK;go_wp2_with fail;go_roundw
   case rel=>exact⟨k + 1,by omega,by go_num,_,_,_,C7⟩
   case measure=>simp[intOf];omega
  ·have hkl2:l.take k=l:=List.take_of_length_le (by omega)
   rw[hkl2] at C4;clear hkl2;obtain⟨x,hx⟩:∃ x,x=Fd.runS Fd.X0 l:=⟨_,rfl⟩;rw[← hx] at C4;have HX2:=Ld (hx.trans HX.out);clear hx HX;obtain⟨s,dn⟩:=x;obtain⟨aoe,aor,ce,cr,rfl,rfl⟩:=C4.out.sv.slices;obtain⟨aod,cd,rfl⟩:=Z9 C4.out.od;have R4:=Ld (Blk.below R2.out C4.out.be hR2);have m0:wr.cell? ⟨M,0,none⟩=some (.slice aoe s.es.length ce):=Blk.cell C4.out.mb 0;have m1:wr.cell? ⟨M,1,none⟩=some (.slice aor s.rd.length cr):=Blk.cell C4.out.mb 1;have m2:wr.cell? ⟨M,2,none⟩=some (.slice aod dn.length cd):=Blk.cell C4.out.mb 2;have r0:wr.cell? ⟨R,0,none⟩=some (.slice none 0 0):=Blk.cell R4.out 0;have r1:wr.cell? ⟨R,1,none⟩=some (.slice none 0 0):=Blk.cell R4.out 1;have f0:=Blk.frozen R4.out 0;have f1:=Blk.frozen R4.out 1;have q2:((wr.setCell ⟨R,0,none⟩ (.slice aoe s.es.length ce)).setCell ⟨R,1,none⟩ (.slice aor s.rd.length cr)).cell? ⟨M,2,none⟩=some (.slice aod dn.length cd):=Blk.cell (Blk.far (Blk.far C4.out.mb (p:=⟨R,0,none⟩) hMR _) (p:=⟨R,1,none⟩) hMR _) 2;have B4:=Ld (B2.out.trans (C4.out.be.mono B2.out.size));have FIN:Hid (q7j l w (.returned (.tuple #[.agg #[.slice aoe s.es.length ce,.slice aor s.rd.length cr],.slice aod dn.length cd,.int .i64 0])) ((wr.setCell ⟨R,0,none⟩ (.slice aoe s.es.length ce)).setCell ⟨R,1,none⟩ (.slice aor s.rd.length cr)).drew):=by
    have hfr:∀ b,w2.heap.size≤b∧b < wr.heap.size→b < ((wr.setCell ⟨R,0,none⟩ (.slice aoe s.es.length ce)).setCell ⟨R,1,none⟩ (.slice aor s.rd.length cr)).drew.heap.size∧((wr.setCell ⟨R,0,none⟩ (.slice aoe s.es.length ce)).setCell ⟨R,1,none⟩ (.slice aor s.rd.length cr)).drew.heap[b]? = wr.heap[b]?:=fun b q=>⟨by simpa [World.setCell] using q.2,(Below.heap_setCell _ ⟨R,1,none⟩ _ b (by show b ≠ R;omega)).trans (Below.heap_setCell _ ⟨R,0,none⟩ _ b (by show b ≠ R;omega))⟩
    refine⟨((B4.out.setCell (p:=⟨R,0,none⟩) hRw _).setCell (p:=⟨R,1,none⟩) hRw _).drew,aoe,aor,aod,ce,cr,cd,(s,dn),HX2.out,by rw[HCC.out],?_,?_⟩
    ·exact⟨C4.out.sv.1.frame (fun b q=>hfr b ⟨q.1,q.2.1⟩),C4.out.sv.2.frame (fun b q=>hfr b ⟨q.1,q.2.1⟩)⟩
    ·exact C4.out.codes.frame hfr
   clear C4 B4;go_upto_region 10 with fail
   go_region
   all_goals
    go_wp2_with fail;refine bodyPost_ret (v:=.tuple #[.agg #[.slice aoe s.es.length ce,.slice aor s.rd.length cr],.slice aod dn.length cd,.int .i64 0]) (by simp[results,results8,go_sem, *]) rfl ?_;exact FIN.out
theorem q77 {w:World} {K:Nat→Prop} {v:Value} {l:List (List UInt8)} (h:z0n w K v l):∃ ao cap,v=.slice ao l.length cap∧∀ k (hk:k < l.length),∃ g o,ao=some ⟨g,o,none⟩∧K g∧w.cell? ⟨g,o + k,none⟩=some (.string (st l[k])):=by
 obtain⟨ao,cap,h1,_,h2,_⟩:=h;refine⟨ao,cap,h1,fun k hk=>?_⟩
 rcases h2 with h2 | ⟨g,o,h3,h4,h5⟩
 ·have:(Q8 l).length=l.length:=by simp[Q8]
  rw[h2] at this;simp at this;omega
 ·exact⟨g,o,h3,h4,h5 _ _ (by simp[Q8,hk])⟩
theorem z9s (l m:List (List UInt8)) (v u:Value) (K K2:Nat→Prop) (w:World) (hv:z0n w K v l) (hu:z0n w K2 u m) (hK:∀ b,K b→b < w.heap.size) (hK2:∀ b,K2 b→b < w.heap.size) (hl:l.length≤33554432) :
  Calls prog 44 #[v,u] w fun e w'=>e=.returned (.bool (decide (l=m)))∧Below w.heap.size w w':=by
 have hst:∀ l:List UInt8,(st l).toList=l:=fun l=>Lib.toList_data _
 obtain⟨ao,cap,hv1,hvc⟩:=q77 hv;obtain⟨au,cau,hu1,huc⟩:=q77 hu;subst hv1;subst hu1;have HV:=Ld hvc;have HU:=Ld huc;have HK:=Ld hK;have HK2:=Ld hK2;clear hvc huc hv hu hK hK2
 by_cases hlen:l.length=m.length
 ·have HLE:=Ld hlen
  have hm:m.length=l.length:=hlen.symm;rw[hm];clear hlen hm;go_enter func44,ntmps44;go_wp2_with fail
  go_loopw [5] (fun i wr=>∃ k:Nat,k≤l.length∧i=.int .i64 k∧Hid (l.take k=m.take k)∧Hid (Below w.heap.size w wr)) (fun i _=>l.length - (intOf i).toNat)
  case atStart=>exact⟨0,Nat.zero_le _,rfl,rfl,Below.refl _ _⟩
  case round =>
   obtain⟨k,hk,rfl,HT,BL⟩:=hrel
   by_cases hlt:k < l.length
   ·have hlt2:k < m.length:=by have:=HLE.out;omega
    obtain⟨g,o,rfl,hKg,c0⟩:=HV.out k hlt;obtain⟨g2,o2,rfl,hKg2,d0⟩:=HU.out k hlt2;rw[← BL.out.cell (p:=⟨g,_,none⟩) (HK.out g hKg)] at c0;rw[← BL.out.cell (p:=⟨g2,_,none⟩) (HK2.out g2 hKg2)] at d0;have HS:Hid (l.take (k + 1)=m.take (k + 1)↔l[k]=m[k]):=take_same l m k hlt hlt2 HT.out;have HS2:Hid (l[k] ≠ m[k]→l ≠ m):=fun h e=>h (by subst e;rfl)
    obtain⟨x,hx⟩:∃ x,l[k]=x:=⟨_,rfl⟩;obtain⟨y,hy⟩:∃ y,m[k]=y:=⟨_,rfl⟩;rw[hx] at c0;rw[hy] at d0;rw[hx,hy] at HS HS2;clear hx hy
    by_cases hxy:x=y
    ·have HT2:Hid (l.take (k + 1)=m.take (k + 1)):=HS.out.2 hxy
     subst hxy;clear HS HS2 HT;go_upto_region 6 with fail
     go_region
     all_goals
      go_wp2_with fail;go_roundw
      case rel=>exact⟨k + 1,by omega,by go_num,HT2.out,BL.out.drew⟩
      case measure=>simp[intOf];omega
    ·have hdx:(x == y)=false:=beq_eq_false_iff_ne.2 hxy
     have HN:Hid (decide (l=m)=false):=decide_eq_false (HS2.out hxy);clear hxy HS HS2 HT;go_upto_region 6 with fail
     go_region
     all_goals
      go_wp2_with fail;go_ret;exact⟨Z8 (by rw[HN.out]),BL.out.drew⟩
   ·have HN:Hid (decide (l=m)=true):=by
     show _=_;have h:=HT.out;have h2:=HLE.out;rw[List.take_of_length_le (by omega),List.take_of_length_le (by omega)] at h;exact decide_eq_true h
    clear HT HLE;go_wp2_with fail;go_ret;exact⟨Z8 (by rw[HN.out]),BL.out⟩
 ·have HN:Hid (decide (l=m)=false):=decide_eq_false (fun e=>hlen (by rw[e]))
  have hln:¬ (l.length:Int)=m.length:=by omega
  clear hlen;go_enter func44,ntmps44;go_wp2_with fail;go_ret;exact⟨Z8 (by rw[HN.out]),Below.refl _ _⟩
theorem sh_ext (s t:Fd.Sh):decide (s=t)=(decide (s.es=t.es) && decide (s.rd=t.rd)):=by
 obtain⟨a,b⟩:=s;obtain⟨c,d⟩:=t;rw[Bool.eq_iff_iff];simp
theorem q6x (s t:Fd.Sh) (ve vr ue ur:Value) (K K2:Nat→Prop) (w:World) (hv:ShV w K ve vr s) (hu:ShV w K2 ue ur t) (hK:∀ b,K b→b < w.heap.size) (hK2:∀ b,K2 b→b < w.heap.size) (hl:s.es.length≤33554432) (hl2:s.rd.length≤33554432) :
  Calls prog 14 #[.agg #[ve,vr],.agg #[ue,ur]] w fun e w'=>e=.returned (.bool (decide (s=t)))∧Below w.heap.size w w':=by
 obtain⟨aoe,aor,ce,cr,rfl,rfl⟩:=hv.slices;obtain⟨aue,aur,de,dr,rfl,rfl⟩:=hu.slices;rw[sh_ext];have AL1:=(Below.refl w.heap.size w).alloc (Lr) (.cells #[.slice aoe s.es.length ce,.slice aor s.rd.length cr] 26);have AL2:=Ld (AL1.alloc AL1.size (.cells #[.slice aue t.es.length de,.slice aur t.rd.length dr] 26));have hlt:∀ b,b < w.heap.size→b < ((w.alloc (.cells #[.slice aoe s.es.length ce,.slice aor s.rd.length cr] 26)).alloc (.cells #[.slice aue t.es.length de,.slice aur t.rd.length dr] 26)).heap.size:=fun b h=>Nat.lt_of_lt_of_le h AL2.out.size
 have HV:=Ld (hv.below hK AL2.out);have HU:=Ld (hu.below hK2 AL2.out);have XB:=Ld (Blk.alloc (Blk.new w 26 #[.slice aoe s.es.length ce,.slice aor s.rd.length cr]) (.cells #[.slice aue t.es.length de,.slice aur t.rd.length dr] 26));have YB:Hid (Blk ((w.alloc (.cells #[.slice aoe s.es.length ce,.slice aor s.rd.length cr] 26)).alloc (.cells #[.slice aue t.es.length de,.slice aur t.rd.length dr] 26)) (w.heap.size + 1) 26 #[.slice aue t.es.length de,.slice aur t.rd.length dr]):=by
  have:=Blk.new (w.alloc (.cells #[.slice aoe s.es.length ce,.slice aor s.rd.length cr] 26)) 26 #[.slice aue t.es.length de,.slice aur t.rd.length dr];simp only [World.size_alloc] at this;exact this
 have HK:Hid (∀ b,K b→b < _):=fun b q=>hlt b (hK b q)
 have HK2:Hid (∀ b,K2 b→b < _):=fun b q=>hlt b (hK2 b q)
 clear AL1 hv hu hK hK2 hlt;go_enter func14,ntmps14;go_upto_region 1 with fail;obtain⟨X,hX⟩:∃ X,X=w.heap.size:=⟨_,rfl⟩;rw[← hX] at XB YB;rw[← hX];generalize (w.alloc (.cells #[.slice aoe s.es.length ce,.slice aor s.rd.length cr] 26)).alloc (.cells #[.slice aue t.es.length de,.slice aur t.rd.length dr] 26)=w1 at AL2 HV HU XB YB HK HK2 ⊢;clear hX;have hS:=Ld (q28 s.es t.es _ _ _ _ w1 HV.out.1 HU.out.1 HK.out HK2.out hl);have x0:w1.cell? ⟨X,0,none⟩=some (.slice aoe s.es.length ce):=Blk.cell XB.out 0;have y0:w1.cell? ⟨X + 1,0,none⟩=some (.slice aue t.es.length de):=Blk.cell YB.out 0;go_wp2_with fail;refine hS.out.mono ?_;rintro e w2 ⟨rfl,hb2⟩;have X2:=Blk.call XB.out hb2;have Y2:=Blk.call YB.out hb2;have x1:w2.cell? ⟨X,1,none⟩=some (.slice aor s.rd.length cr):=Blk.cell X2 1;have y1:w2.cell? ⟨X + 1,1,none⟩=some (.slice aur t.rd.length dr):=Blk.cell Y2 1;have B2:=Ld (AL2.out.trans (hb2.mono AL2.out.size));have HT:=Ld (z9s s.rd t.rd _ _ _ _ w2 (HV.out.2.below HK.out hb2) (HU.out.2.below HK2.out hb2) (fun b q=>Nat.lt_of_lt_of_le (HK.out b q) hb2.size) (fun b q=>Nat.lt_of_lt_of_le (HK2.out b q) hb2.size) hl2);clear hS x0 y0 X2 Y2 hb2
 by_cases he:s.es=t.es
 ·have hd:decide (s.es=t.es)=true:=decide_eq_true he
  rw[hd];have HD:=Ld hd;clear hd he;go_wp2_with fail;refine HT.out.mono ?_;rintro e w3 ⟨rfl,hb3⟩;have B3:=Ld (B2.out.trans (hb3.mono B2.out.size));clear HT hb3 x1 y1;go_wp2_with fail;go_ret;exact⟨Z8 (by rw[HD.out,Bool.true_and]),B3.out⟩
 ·have hd:decide (s.es=t.es)=false:=decide_eq_false he
  rw[hd];have HD:=Ld hd;clear hd he;go_wp2_with fail;go_ret;exact⟨Z8 (by rw[HD.out,Bool.false_and]),B2.out⟩
theorem law_rss (w:World):Calls prog 38 #[] w fun e w'=>e=.returned (.string (st Fd.rssB))∧w'=w:=by
 go_enter func38,ntmps38;go_wp2_with fail;go_ret;exact⟨rfl,rfl⟩
theorem z18.of_blk {w:World} {g cap:Nat} {K:Nat→Prop} {l:List Fd.En} (hb:Blk w g 44 (y9 l).toArray) (hK:K g) (hl:l.length≤cap) (hm:l.length≤maxLen):z18 w K (.slice (some ⟨g,0,none⟩) l.length cap) l :=
 ⟨_,cap,rfl,.inr ⟨g,0,rfl,hK,fun i v q=>by rw[Nat.zero_add];exact(Blk.cell hb i).trans (by simpa using q)⟩,hl,hm⟩
theorem z7g.of_blk {w:World} {g cap:Nat} {K:Nat→Prop} {l:List Fd.Ac} (hb:Blk w g 36 (z0v l).toArray) (hK:K g) (hl:l.length≤cap) (hm:l.length≤maxLen):z7g w K (.slice (some ⟨g,0,none⟩) l.length cap) l :=
 ⟨_,cap,rfl,.inr ⟨g,0,rfl,hK,fun i v q=>by rw[Nat.zero_add];exact(Blk.cell hb i).trans (by simpa using q)⟩,hl,hm⟩
theorem z0g.known {s t:Fd.Sh} {a:Fd.Ac} {w w':World} {e:Ending} {n c:Int} (h:z0g s a w e w') (hs:Fd.stepS Fd.X0 s a=(t,n,c)):Below w.heap.size w w'∧∃ aoe aor ce cr,e=.returned (.tuple #[.agg #[.slice aoe t.es.length ce,.slice aor t.rd.length cr],.int .i64 n,.int .i64 c])∧ShV w' (fun b=>b < w'.heap.size) (.slice aoe t.es.length ce) (.slice aor t.rd.length cr) t:=by
 unfold z0g at h;rw[hs] at h;obtain⟨hb,aoe,aor,ce,cr,he,hv⟩:=h;exact⟨hb,aoe,aor,ce,cr,he,hv.1.frame (fun b q=>⟨q.2,rfl⟩),hv.2.frame (fun b q=>⟨q.2,rfl⟩)⟩
theorem ShV.call {w w':World} {ve vr:Value} {s:Fd.Sh} (h:ShV w (fun b=>b < w.heap.size) ve vr s) (hb:Below w.heap.size w w'):ShV w' (fun b=>b < w'.heap.size) ve vr s:=⟨h.1.frame (fun b q=>⟨Nat.lt_of_lt_of_le q hb.size,hb.block b q⟩),h.2.frame (fun b q=>⟨Nat.lt_of_lt_of_le q hb.size,hb.block b q⟩)⟩
theorem triple {α β γ:Type} (x:α × β × γ) (b:β) (c:γ) (h:x.2=(b,c)):x=(x.1,b,c):=by obtain⟨x,y⟩:=x;cases h;rfl
theorem q6d (w:World) (hg:Gl w) :
  Calls prog 9 #[] w fun e w'=>e=.returned (.bool true)∧Below w.heap.size w w':=by
 have hlt:=hg.lt;have HG:=Ld hg;have hs1:=triple _ _ _ Fd.z90.1;have he1:=Fd.z90.2;have hs2:=triple _ _ _ Fd.q0m.1;have he2:=Fd.q0m.2;have hc0:=Fd.q7v;have hrn:=Fd.j4n;have hr1:Fd.z0e Fd.Sh.none=0:=Fd.z3k;have hr2:Fd.z0e (Fd.stepS Fd.X0 Fd.Sh.none Fd.actF).1=0:=Fd.q1i Fd.X0 Fd.z98 _ _ (by rw[Fd.z90.1]);generalize (Fd.stepS Fd.X0 Fd.Sh.none Fd.actF).1=s1 at hs1 he1 hs2 he2 hr2;generalize (Fd.stepS Fd.X0 s1 Fd.act1).1=s2 at hs2 he2;obtain⟨⟨s3,dn⟩,h3⟩:∃ y,y=Fd.runS Fd.X0 [Fd.actF,Fd.act1,Fd.actN,Fd.actD]:=⟨_,rfl⟩;have hrl:=hrn.2.2;have hre:s3.es.length=1:=by have:=hrn.1;rw[← h3] at this;exact this
 have hrd:dn=[0,0,5,0]:=by have:=hrn.2.1;rw[← h3] at this;exact this
 subst hrd;clear hrn;have H1:Hid (∀ W,Gl W→Calls prog 12 #[.agg #[.slice none 0 0,.slice none 0 0],.agg #[.int .i64 1,.string (st Fd.rssB),.string ⟨#[104,116,116,112,58,47,47,104,47]⟩]] W fun e w'=>Below W.heap.size W w'∧∃ aoe aor ce cr,e=.returned (.tuple #[.agg #[.slice aoe 2 ce,.slice aor s1.rd.length cr],.int .i64 2,.int .i64 0])∧ShV w' (fun b=>b < w'.heap.size) (.slice aoe 2 ce) (.slice aor s1.rd.length cr) s1):=by
  intro W hW;refine Calls.mono (q47 Fd.Sh.none Fd.actF _ _ (fun b=>False) W hW (ShV.emp _ _) (fun b q=>q.elim) (fun x h=>by cases h)) ?_;intro e w' h;have:=h.known hs1;rw[he1] at this;exact this
 have H2:Hid (∀ W aoe aor ce cr,Gl W→ShV W (fun b=>b < W.heap.size) (.slice aoe 2 ce) (.slice aor s1.rd.length cr) s1→Calls prog 12 #[.agg #[.slice aoe 2 ce,.slice aor s1.rd.length cr],.agg #[.int .i64 2,.string ⟨#[49]⟩,.string ⟨#[]⟩]] W fun e w'=>Below W.heap.size W w'∧∃ aoe aor ce cr,e=.returned (.tuple #[.agg #[.slice aoe s2.es.length ce,.slice aor 1 cr],.int .i64 1,.int .i64 0])∧ShV w' (fun b=>b < w'.heap.size) (.slice aoe s2.es.length ce) (.slice aor 1 cr) s2):=by
  intro W aoe aor ce cr hW hv;refine Calls.mono (q47 s1 Fd.act1 _ _ _ W hW hv (fun b q=>q) (fun z h=>Nat.le_trans (Fd.q21 (((Fd.z01 s1).1 hr2).2.2.1.1 z h)).2 (by decide))) ?_;intro e w' h;have:=h.known hs2;rw[he2] at this;exact this
 have H3:Hid (∀ W g,Gl W→Blk W g 36 (z0v [Fd.actF,Fd.act1,Fd.actN,Fd.actD]).toArray→Calls prog 8 #[.slice (some ⟨g,0,none⟩) 4 4] W fun e w'=>Below W.heap.size W w'∧∃ aoe aor g2 o2 ce cr cd,e=.returned (.tuple #[.agg #[.slice aoe 1 ce,.slice aor s3.rd.length cr],.slice (some ⟨g2,o2,none⟩) 4 cd,.int .i64 0])∧g2 < w'.heap.size∧w'.cell? ⟨g2,o2 + 2,none⟩=some (.int .i64 5)):=by
  intro W g hW hb;refine Calls.mono (dk_Run _ _ (fun b=>b < W.heap.size) W hW (z7g.of_blk hb hb.lt (Lr) (by decide)) (fun b q=>q)) ?_;rintro e w' ⟨hb,aoe,aor,aod,ce,cr,cd,x,hx,he,hv,hc⟩;rw[if_pos hrl,← h3] at hx;subst hx;obtain⟨g2,o2,rfl,hK,hcell⟩:=q2s hc 2 (show 2 < 4 by decide);have h1:(⟨s3,[0,0,5,0]⟩:Fd.Sh × List Int).1.es.length=1:=hre;rw[hrl,h1] at he;exact⟨hb,aoe,aor,g2,o2,ce,cr,cd,he,hK,hcell⟩
 have H4:Hid (∀ W g,Blk W g 36 (z0v [Fd.actF]).toArray→Calls prog 11 #[.slice (some ⟨g,0,none⟩) 1 1] W fun e w'=>e=.returned (.int .i64 0)∧Below W.heap.size W w'):=by
  intro W g hb;have:=q46 _ _ (fun b=>b < W.heap.size) W (z7g.of_blk (cap:=1) hb hb.lt (Lr) (by decide)) (fun b q=>q);rw[hc0] at this;exact this
 clear hs1 he1 hs2 he2 hc0 hr1 hr2 hrl hre h3 hg;go_enter func9,ntmps9;go_wp2_with fail;refine(law_rss w).mono ?_;rintro e wx ⟨rfl,hwx⟩;subst wx;have hrss:∀ X,(z0v [X]).toArray = #[Value.int .i64 X.kind,.string (st X.text),.string (st X.base)]:=fun X=>rfl
 obtain⟨t,ht⟩:∃ t,t=Fd.rssB:=⟨_,rfl⟩;rw[← ht] at H1 ⊢;have HA:Fd.actF=⟨1,t,[104,116,116,112,58,47,47,104,47]⟩:=by rw[ht];rfl
 rw[HA] at H3 H4;clear HA ht hrss;have AL:=(Below.refl w.heap.size w).alloc (Lr) (.cells #[.int .i64 1,.string (st t),.string ⟨#[104,116,116,112,58,47,47,104,47]⟩] 36);have XB:=Ld (Blk.new w 36 #[.int .i64 1,.string (st t),.string ⟨#[104,116,116,112,58,47,47,104,47]⟩]);have B1:=Ld AL;have HG1:=Ld (HG.out.below AL hlt);clear AL;go_upto_region 2 with fail;obtain⟨X,hX⟩:∃ X,X=w.heap.size:=⟨_,rfl⟩;rw[← hX] at XB;rw[← hX];generalize w.alloc (.cells #[.int .i64 1,.string (st t),.string ⟨#[104,116,116,112,58,47,47,104,47]⟩] 36)=w1 at B1 XB HG1 ⊢;clear hX;have x0:w1.cell? ⟨X,0,none⟩=some (.int .i64 1):=Blk.cell XB.out 0;have x1:w1.cell? ⟨X,1,none⟩=some (.string (st t)):=Blk.cell XB.out 1;have x2:w1.cell? ⟨X,2,none⟩=some (.string ⟨#[104,116,116,112,58,47,47,104,47]⟩):=Blk.cell XB.out 2;go_wp2_with fail;refine(H1.out _ HG1.out).mono ?_;rintro e w2 ⟨hb2,aoe2,aor2,ce2,cr2,rfl,hv2⟩;clear H1 x0 x1 x2;have AL:=(Below.refl w2.heap.size w2).alloc (Lr) (.cells #[.slice aoe2 2 ce2,.slice aor2 s1.rd.length cr2] 26);have B3:=Ld (B1.out.trans ((hb2.trans (AL.mono hb2.size)).mono B1.out.size));have X3:=Ld (Blk.alloc (Blk.call XB.out hb2) (.cells #[.slice aoe2 2 ce2,.slice aor2 s1.rd.length cr2] 26));have P3:=Ld (Blk.new w2 26 #[.slice aoe2 2 ce2,.slice aor2 s1.rd.length cr2]);have V3:=Ld (hv2.call AL);clear hb2 hv2 AL XB B1 HG1;go_upto_region 3 with fail;obtain⟨P,hP⟩:∃ X,X=w2.heap.size:=⟨_,rfl⟩;rw[← hP] at P3;rw[← hP];generalize w2.alloc (.cells #[.slice aoe2 2 ce2,.slice aor2 s1.rd.length cr2] 26)=w3 at B3 X3 P3 V3 ⊢;clear hP;have HG3:=Ld (HG.out.below B3.out hlt);have p0:w3.cell? ⟨P,0,none⟩=some (.slice aoe2 2 ce2):=Blk.cell P3.out 0;have p1:w3.cell? ⟨P,1,none⟩=some (.slice aor2 s1.rd.length cr2):=Blk.cell P3.out 1;go_wp2_with fail;refine(H2.out _ _ _ _ _ HG3.out V3.out).mono ?_;rintro e w4 ⟨hb4,aoe4,aor4,ce4,cr4,rfl,hv4⟩;clear H2 p0 p1 V3 hv4 HG3;have AL:=(Below.refl w4.heap.size w4).alloc (Lr) (.cells #[.slice aoe4 s2.es.length ce4,.slice aor4 1 cr4] 26);have B5:=Ld (B3.out.trans ((hb4.trans (AL.mono hb4.size)).mono B3.out.size));have X5:=Ld (Blk.alloc (Blk.call X3.out hb4) (.cells #[.slice aoe4 s2.es.length ce4,.slice aor4 1 cr4] 26));have P5:=Ld (Blk.alloc (Blk.call P3.out hb4) (.cells #[.slice aoe4 s2.es.length ce4,.slice aor4 1 cr4] 26));have Q5:=Ld (Blk.new w4 26 #[.slice aoe4 s2.es.length ce4,.slice aor4 1 cr4]);clear hb4 AL B3 X3 P3;go_upto_region 4 with fail;obtain⟨Q,hQ⟩:∃ X,X=w4.heap.size:=⟨_,rfl⟩;rw[← hQ] at Q5;rw[← hQ];generalize w4.alloc (.cells #[.slice aoe4 s2.es.length ce4,.slice aor4 1 cr4] 26)=w5 at B5 X5 P5 Q5 ⊢;clear hQ;have x0:w5.cell? ⟨X,0,none⟩=some (.int .i64 1):=Blk.cell X5.out 0;have x1:w5.cell? ⟨X,1,none⟩=some (.string (st t)):=Blk.cell X5.out 1;have x2:w5.cell? ⟨X,2,none⟩=some (.string ⟨#[104,116,116,112,58,47,47,104,47]⟩):=Blk.cell X5.out 2;have AL:=(Below.refl w5.heap.size w5).alloc (Lr) (.cells (z0v [⟨1,t,[104,116,116,112,58,47,47,104,47]⟩,Fd.act1,Fd.actN,Fd.actD]).toArray 36);have HRUN:=Ld (H3.out _ w5.heap.size (HG.out.below (B5.out.trans (AL.mono B5.out.size)) hlt) (Blk.new w5 36 (z0v [⟨1,t,[104,116,116,112,58,47,47,104,47]⟩,Fd.act1,Fd.actN,Fd.actD]).toArray));have HAL:=Ld AL;clear H3 AL;go_wp2_with fail;refine HRUN.out.mono ?_;rintro e w6 ⟨hb6,aoe6,aor6,g2,o2,ce6,cr6,cd6,rfl,hg2,hcell⟩;have hb56:=HAL.out.trans (hb6.mono HAL.out.size);have AL:=(Below.refl w6.heap.size w6).alloc (Lr) (.cells #[.slice aoe6 1 ce6,.slice aor6 s3.rd.length cr6] 26);have hb57:=hb56.trans (AL.mono hb56.size);have B7:=Ld (B5.out.trans (hb57.mono B5.out.size));have X7:=Ld (Blk.call X5.out hb57);have P7:=Ld (Blk.call P5.out hb57);have Q7:=Ld (Blk.call Q5.out hb57);have S7:=Ld (Blk.new w6 26 #[.slice aoe6 1 ce6,.slice aor6 s3.rd.length cr6]);have c5:(w6.alloc (.cells #[.slice aoe6 1 ce6,.slice aor6 s3.rd.length cr6] 26)).cell? ⟨g2,o2 + 2,none⟩=some (.int .i64 5):=(AL.cell (p:=⟨g2,_,none⟩) hg2).trans hcell;have hg7:g2 < (w6.alloc (.cells #[.slice aoe6 1 ce6,.slice aor6 s3.rd.length cr6] 26)).heap.size:=Nat.lt_of_lt_of_le hg2 AL.size;clear hb56 hb57 hb6 AL HAL HRUN B5 X5 P5 Q5 x0 x1 x2 hcell hg2;go_upto_region 5 with fail;obtain⟨S,hS⟩:∃ X,X=w6.heap.size:=⟨_,rfl⟩;rw[← hS] at S7;rw[← hS];generalize w6.alloc (.cells #[.slice aoe6 1 ce6,.slice aor6 s3.rd.length cr6] 26)=w7 at B7 X7 P7 Q7 S7 c5 hg7 ⊢;clear hS;have x0:w7.cell? ⟨X,0,none⟩=some (.int .i64 1):=Blk.cell X7.out 0;have x1:w7.cell? ⟨X,1,none⟩=some (.string (st t)):=Blk.cell X7.out 1;have x2:w7.cell? ⟨X,2,none⟩=some (.string ⟨#[104,116,116,112,58,47,47,104,47]⟩):=Blk.cell X7.out 2;have AL:=(Below.refl w7.heap.size w7).alloc (Lr) (.cells (z0v [⟨1,t,[104,116,116,112,58,47,47,104,47]⟩]).toArray 36);have HCK:=Ld (H4.out _ w7.heap.size (Blk.new w7 36 (z0v [⟨1,t,[104,116,116,112,58,47,47,104,47]⟩]).toArray));have HAL:=Ld AL;clear H4 AL;go_wp2_with fail;refine HCK.out.mono ?_;rintro e w9 ⟨rfl,hb9⟩;have hb79:=HAL.out.trans (hb9.mono HAL.out.size);have B9:=Ld (B7.out.trans (hb79.mono B7.out.size));have p0:w9.cell? ⟨P,0,none⟩=some (.slice aoe2 2 ce2):=Blk.cell (Blk.call P7.out hb79) 0;have q1:w9.cell? ⟨Q,1,none⟩=some (.slice aor4 1 cr4):=Blk.cell (Blk.call Q7.out hb79) 1;have s0:w9.cell? ⟨S,0,none⟩=some (.slice aoe6 1 ce6):=Blk.cell (Blk.call S7.out hb79) 0;have c9:w9.cell? ⟨g2,o2 + 2,none⟩=some (.int .i64 5):=(hb79.cell (p:=⟨g2,_,none⟩) hg7).trans c5;clear hb9 hb79 HAL HCK x0 x1 x2 X7 P7 Q7 S7 c5 hg7 B7;go_wp2_with fail;go_ret;exact⟨rfl,B9.out⟩
end Go.Proofs.YtjonkbdldebkiaaGreatDoor
namespace Fd
theorem j8s (F:Bs→Bs→List En × Int) (s:Sh) (a:Ac) (h:(stepS F s a).2.2 ≠ 0):stepS F s a=(Sh.none,0,(stepS F s a).2.2):=by
 unfold stepS at h ⊢
 by_cases h1:z0e s ≠ 0
 ·rw[if_pos h1]
 rw[if_neg h1] at h ⊢
 by_cases h2:z0w a ≠ 0
 ·rw[if_pos h2]
 rw[if_neg h2] at h ⊢
 by_cases h3:a.kind=1
 ·rw[if_pos h3] at h ⊢
  by_cases h4:(F a.base a.text).2 ≠ 0
  ·simp only [if_pos h4]
  ·simp only [if_neg h4] at h
   exact absurd rfl h
 rw[if_neg h3] at h ⊢
 by_cases h4:a.kind=4
 ·rw[if_pos h4] at h
  exact absurd rfl h
 rw[if_neg h4] at h ⊢
 by_cases h5:(z3t s a.text (decide (a.kind=2))).2 ≠ 0
 ·simp only [if_pos h5]
 ·simp only [if_neg h5] at h
  exact absurd rfl h
end Fd
namespace Go.Proofs.YtjonkbdldebkiaaGreatDoor
open Go.Proofs.Tryz Go.RowKit
theorem j02 (s:Fd.Sh) (a:Fd.Ac) (ve vr:Value) (K:Nat→Prop) (w:World) (hg:Gl w) (hv:ShV w K ve vr s) (hK:∀ b,K b→b < w.heap.size) (hid:∀ x ∈ s.es,x.id.length≤1048576) :
  Calls prog 7 #[.agg #[ve,vr],acV a] w fun e w'=>e=.returned (.bool true)∧Below w.heap.size w w':=by
 obtain⟨aoe,aor,ce,cr,rfl,rfl⟩:=hv.slices;have hlt:=hg.lt;obtain⟨kind,text,base⟩:=a;have AL1:=(Below.refl w.heap.size w).alloc (Lr) (.cells #[.slice aoe s.es.length ce,.slice aor s.rd.length cr] 26);have AL2:=AL1.alloc AL1.size (.cells #[.int .i64 kind,.string (st text),.string (st base)] 36);have XB:=Ld (Blk.alloc (Blk.new w 26 #[.slice aoe s.es.length ce,.slice aor s.rd.length cr]) (.cells #[.int .i64 kind,.string (st text),.string (st base)] 36));have YB:Hid (Blk ((w.alloc (.cells #[.slice aoe s.es.length ce,.slice aor s.rd.length cr] 26)).alloc (.cells #[.int .i64 kind,.string (st text),.string (st base)] 36)) (w.heap.size + 1) 36 #[.int .i64 kind,.string (st text),.string (st base)]):=by
  have:=Blk.new (w.alloc (.cells #[.slice aoe s.es.length ce,.slice aor s.rd.length cr] 26)) 36 #[.int .i64 kind,.string (st text),.string (st base)];simp only [World.size_alloc] at this;exact this
 have HV:=Ld (hv.below hK AL2);have HK:Hid (∀ b,K b→b < ((w.alloc (.cells #[.slice aoe s.es.length ce,.slice aor s.rd.length cr] 26)).alloc (.cells #[.int .i64 kind,.string (st text),.string (st base)] 36)).heap.size):=fun b q=>Nat.lt_of_lt_of_le (hK b q) AL2.size
 have HG:=Ld (hg.below AL2 hlt);have HID:=Ld hid;have B1:=Ld AL2;clear AL1 AL2 hg hv hK hid hlt;unfold acV;go_enter func7,ntmps7;go_upto_region 1 with fail;obtain⟨X,hX⟩:∃ X,X=w.heap.size:=⟨_,rfl⟩;rw[← hX] at XB YB;rw[← hX];generalize (w.alloc (.cells #[.slice aoe s.es.length ce,.slice aor s.rd.length cr] 26)).alloc (.cells #[.int .i64 kind,.string (st text),.string (st base)] 36)=w1 at XB YB HV HK HG B1 ⊢;clear hX;go_wp2_with fail;refine(q6d w1 HG.out).mono ?_;rintro e w2 ⟨rfl,hb2⟩;have X2:=Ld (Blk.call XB.out hb2);have Y2:=Ld (Blk.call YB.out hb2);have HV2:=Ld (HV.out.below HK.out hb2);have HK2:Hid (∀ b,K b→b < w2.heap.size):=fun b q=>Nat.lt_of_lt_of_le (HK.out b q) hb2.size
 have HG2:=Ld (HG.out.below hb2 HG.out.lt);have B2:=Ld (B1.out.trans (hb2.mono B1.out.size));clear hb2 B1 XB YB HV HK HG;have hTW:=Fd.j4m Fd.X0 Fd.z98 s ⟨kind,text,base⟩;have hER:=Fd.j8s Fd.X0 s ⟨kind,text,base⟩;have hRI:=Fd.q1i Fd.X0 Fd.z98 s ⟨kind,text,base⟩;obtain⟨⟨t,n,c⟩,hstep⟩:∃ y,y=Fd.stepS Fd.X0 s ⟨kind,text,base⟩:=⟨_,rfl⟩;rw[← hstep] at hTW hER hRI;have HST:Hid (Calls prog 12 #[.agg #[.slice aoe s.es.length ce,.slice aor s.rd.length cr],.agg #[.int .i64 kind,.string (st text),.string (st base)]] w2 fun e w'=>Below w2.heap.size w2 w'∧∃ aoe aor ce cr,e=.returned (.tuple #[.agg #[.slice aoe t.es.length ce,.slice aor t.rd.length cr],.int .i64 n,.int .i64 c])∧ShV w' (fun b=>b < w'.heap.size) (.slice aoe t.es.length ce) (.slice aor t.rd.length cr) t):=Calls.mono (q47 s ⟨kind,text,base⟩ _ _ K w2 HG2.out HV2.out HK2.out HID.out) (fun e w' h=>h.known hstep.symm);have HTW:=Ld hTW;have HER:=Ld hER;have HRI:=Ld hRI;clear hTW hER hRI hstep HV2 HK2 HID;have x0:w2.cell? ⟨X,0,none⟩=some (.slice aoe s.es.length ce):=Blk.cell X2.out 0;have x1:w2.cell? ⟨X,1,none⟩=some (.slice aor s.rd.length cr):=Blk.cell X2.out 1;have y0:w2.cell? ⟨X + 1,0,none⟩=some (.int .i64 kind):=Blk.cell Y2.out 0;have y1:w2.cell? ⟨X + 1,1,none⟩=some (.string (st text)):=Blk.cell Y2.out 1;have y2:w2.cell? ⟨X + 1,2,none⟩=some (.string (st base)):=Blk.cell Y2.out 2;go_upto_region 3 with fail;go_wp2_with fail;refine HST.out.mono ?_;rintro e w3 ⟨hb3,aoe3,aor3,ce3,cr3,rfl,hv3⟩
 by_cases hc:c=0
 case neg =>
  have h0:=HER.out hc;injection h0 with h1 h2;injection h2 with h2 _;subst h1;subst h2;have hcb:(c == 0)=false:=beq_eq_false_iff_ne.2 hc;have B3:=Ld ((B2.out.trans (hb3.mono B2.out.size)).alloc (B2.out.trans (hb3.mono B2.out.size)).size (.cells #[.slice aoe3 0 ce3,.slice aor3 0 cr3] 26));clear hc HER HTW HRI HST;go_wp2_with fail;go_ret;exact⟨rfl,B3.out⟩
 subst hc;obtain⟨k,hk1,hk2⟩:=HTW.out rfl;have hr:=(Fd.z01 t).1 (HRI.out rfl);have HR:=Ld hr;have AL:=(Below.refl w3.heap.size w3).alloc (Lr) (.cells #[.slice aoe3 t.es.length ce3,.slice aor3 t.rd.length cr3] 26);have HG4:=Ld (HG2.out.below (hb3.trans (AL.mono hb3.size)) HG2.out.lt);have Y4:=Ld (Blk.alloc (Blk.call Y2.out hb3) (.cells #[.slice aoe3 t.es.length ce3,.slice aor3 t.rd.length cr3] 26));have P4:=Ld (Blk.new w3 26 #[.slice aoe3 t.es.length ce3,.slice aor3 t.rd.length cr3]);have V4:=Ld (hv3.call AL);have HK1:=Ld hk1;have B4:=Ld (B2.out.trans ((hb3.trans (AL.mono hb3.size)).mono B2.out.size));clear HST HTW HER HRI x0 x1 y0 y1 y2 hb3 hv3 AL X2 Y2 hk1 hr HG2;go_upto_region 6 with fail;obtain⟨P,hP⟩:∃ X,X=w3.heap.size:=⟨_,rfl⟩;rw[← hP] at P4;rw[← hP];generalize w3.alloc (.cells #[.slice aoe3 t.es.length ce3,.slice aor3 t.rd.length cr3] 26)=w4 at HG4 Y4 P4 V4 B4 ⊢;clear hP;have HST:Hid (Calls prog 12 #[.agg #[.slice aoe3 t.es.length ce3,.slice aor3 t.rd.length cr3],.agg #[.int .i64 kind,.string (st text),.string (st base)]] w4 fun e w'=>Below w4.heap.size w4 w'∧∃ aoe aor ce cr,e=.returned (.tuple #[.agg #[.slice aoe t.es.length ce,.slice aor t.rd.length cr],.int .i64 k,.int .i64 0])∧ShV w' (fun b=>b < w'.heap.size) (.slice aoe t.es.length ce) (.slice aor t.rd.length cr) t):=Calls.mono (q47 t ⟨kind,text,base⟩ _ _ _ w4 HG4.out V4.out (fun b q=>q) (fun z h=>Nat.le_trans (Fd.q21 (HR.out.2.2.1.1 z h)).2 (by decide))) (fun e w' h=>h.known HK1.out);have p0:w4.cell? ⟨P,0,none⟩=some (.slice aoe3 t.es.length ce3):=Blk.cell P4.out 0;have p1:w4.cell? ⟨P,1,none⟩=some (.slice aor3 t.rd.length cr3):=Blk.cell P4.out 1;have y0:w4.cell? ⟨X + 1,0,none⟩=some (.int .i64 kind):=Blk.cell Y4.out 0;have y1:w4.cell? ⟨X + 1,1,none⟩=some (.string (st text)):=Blk.cell Y4.out 1;have y2:w4.cell? ⟨X + 1,2,none⟩=some (.string (st base)):=Blk.cell Y4.out 2;clear HK1;go_wp2_with fail;refine HST.out.mono ?_;rintro e w5 ⟨hb5,aoe5,aor5,ce5,cr5,rfl,hv5⟩;have AL:=(Below.refl w5.heap.size w5).alloc (Lr) (.cells #[.slice aoe5 t.es.length ce5,.slice aor5 t.rd.length cr5] 26);have hb6:=hb5.trans (AL.mono hb5.size);have Y6:=Ld (Blk.call Y4.out hb6);have P6:=Ld (Blk.call P4.out hb6);have Q6:=Ld (Blk.new w5 26 #[.slice aoe5 t.es.length ce5,.slice aor5 t.rd.length cr5]);have V6:=Ld (V4.out.call hb6);have U6:=Ld (hv5.call AL);have B6:=Ld (B4.out.trans (hb6.mono B4.out.size));clear HST p0 p1 y0 y1 y2 hb5 hv5 AL hb6 Y4 P4 V4 HG4;go_upto_region 7 with fail;obtain⟨Q,hQ⟩:∃ X,X=w5.heap.size:=⟨_,rfl⟩;rw[← hQ] at Q6;rw[← hQ];generalize w5.alloc (.cells #[.slice aoe5 t.es.length ce5,.slice aor5 t.rd.length cr5] 26)=w6 at Y6 P6 Q6 V6 U6 B6 ⊢;clear hQ;have hle:t.es.length≤33554432:=Nat.le_trans HR.out.1 (by decide);have hlr:t.rd.length≤33554432:=Nat.le_trans HR.out.2.1 (by decide);have HSM:=Ld (q6x t t _ _ _ _ _ _ w6 V6.out U6.out (fun b q=>q) (fun b q=>q) hle hlr);rw[decide_eq_true (rfl:t=t)] at HSM;have p0:w6.cell? ⟨P,0,none⟩=some (.slice aoe3 t.es.length ce3):=Blk.cell P6.out 0;have p1:w6.cell? ⟨P,1,none⟩=some (.slice aor3 t.rd.length cr3):=Blk.cell P6.out 1;have q0:w6.cell? ⟨Q,0,none⟩=some (.slice aoe5 t.es.length ce5):=Blk.cell Q6.out 0;have q1:w6.cell? ⟨Q,1,none⟩=some (.slice aor5 t.rd.length cr5):=Blk.cell Q6.out 1;clear V6 U6 P6 Q6 hle hlr HR;go_wp2_with fail;refine HSM.out.mono ?_;rintro e w7 ⟨rfl,hb7⟩;have y0:w7.cell? ⟨X + 1,0,none⟩=some (.int .i64 kind):=Blk.cell (Blk.call Y6.out hb7) 0;have B7:=Ld (B6.out.trans (hb7.mono B6.out.size));clear HSM p0 p1 q0 q1 hb7 Y6 B6 B4
 by_cases hk0:k=0
 ·subst hk0
  clear hk2;go_wp2_with fail;go_ret;exact⟨rfl,B7.out⟩
 have hkb:(k == 0)=false:=beq_eq_false_iff_ne.2 hk0
 by_cases h2:kind=2
 ·subst h2
  clear hk2 hk0;go_wp2_with fail;go_ret;exact⟨rfl,B7.out⟩
 have h3:kind=3:=by
  rcases hk2 with q | q | q
  ·exact absurd q hk0
  ·exact absurd q h2
  ·exact q
 subst h3;clear hk2 hk0 h2;go_wp2_with fail;go_ret;exact⟨rfl,B7.out⟩
end Go.Proofs.YtjonkbdldebkiaaGreatDoor
