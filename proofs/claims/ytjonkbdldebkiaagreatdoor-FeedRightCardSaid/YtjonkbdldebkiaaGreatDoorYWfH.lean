/- Contracts of the feed reader's each and Read. No condition. -/
import Derived.Test.YtjonkbdldebkiaaGreatDoorYWfD
import Derived.Test.YtjonkbdldebkiaaGreatDoorYWxN
import Derived.Test.YtjonkbdldebkiaaGreatDoorYWfC
import Derived.Test.YtjonkbdldebkiaaGreatDoorYMkSame
import Derived.Test.YtjonkbdldebkiaaGreatDoorYWxC
import Derived.Test.YtjonkbdldebkiaaGreatDoorYMkHtml
import Derived.Test.YtjonkbdldebkiaaGreatDoorYMkBegunD
import Derived.Test.YtjonkbdldebkiaaGreatDoorYMkStay3
set_option linter.unusedVariables false
set_option linter.unusedSimpArgs false
set_option maxHeartbeats 8000000
set_option maxRecDepth 100000
namespace Fd
open Mk
theorem putM_len (base:Bs) (l:List En) (x:En) (h:l.length≤12):(putM base l x).length≤12:=by
 unfold putM
 split
 ·exact h
 ·rename_i q
  have:¬ l.length=12:=fun e=>q (.inr (.inr (.inl e)))
  rw[List.length_append,List.length_singleton];omega
theorem j4m (base title:Bs) (E:Fo→En) (n:Bs) (a:List At) (t:Bs) (k r:Fo) (out:List En):z7t base title E (.node n a t k r) out=z7t base title E r (if n=title then putM base out (E k) else out):=rfl
theorem j09:∀ (n:Nat) (s r:Bs) (u:Unit),z6r n s=.ok u r→r.length≤s.length
 | 0,s,r,u,h=>by rw[z6r] at h;injection h with _ h2;rw[h2];exact Nat.le_refl _
 | n + 1,s,r,u,h=>by
  rw[z6r] at h
  split at h
  ·have:=j09 n _ r u h
   omega
  ·cases ha:z16 s with
   | none=>rw[ha] at h;injection h with _ h2;rw[h2];exact Nat.le_refl _
   | some x =>
    rw[ha] at h
    cases x with
    | er e=>cases h
    | ok v z =>
     have h1:=z3o ha;have h2:=j09 n z r u h;omega
theorem y0u (s:Bs):Fo.bulk (xmlM s).1.kids + Fo.atB (xmlM s).1.ats≤15000:=by
 have h0:Fo.bulk .nil=0:=rfl;have h1:Fo.atB ([]:List At)=0:=rfl;unfold xmlM
 split
 ·show Fo.bulk .nil + Fo.atB []≤_;omega
 rename_i hl
 rw[y0v]
 cases hm:z3u s with
 | er e=>show Fo.bulk .nil + Fo.atB []≤_;omega
 | ok u r =>
  simp only;have hr:r.length≤s.length:=by
   have:=j09 _ _ _ _ hm;omega
  cases he:z5x 1 r with
  | er e=>show Fo.bulk .nil + Fo.atB []≤_;omega
  | ok x z =>
   have hb:=q4b he;simp only
   cases hm2:z3u z with
   | er e=>show Fo.bulk .nil + Fo.atB []≤_;omega
   | ok u2 v =>
    simp only
    split
    ·show Fo.bulk x.kids + Fo.atB x.ats≤_;omega
    ·show Fo.bulk .nil + Fo.atB []≤_;omega
end Fd
namespace Go.Proofs.YtjonkbdldebkiaaGreatDoor
open Go.RowKit
def MapsC (g:FuncId) (E:Mk.Fo→Fd.En) (w:World) (M:Nat) (base:List UInt8) (K:Nat→Prop):Prop:=∀ (wx:World) (u:Value) (out:List Fd.En) (n:List UInt8) (a:List Mk.At) (t:List UInt8) (k:Mk.Fo) (va vk:Value),MpI w wx M base u out→out.length≤12→NdV w K va vk ⟨n,a,t,k⟩→k.bulk≤100000 →
 Calls Tryz.prog g #[.pointer (some ⟨M,0,none⟩),V4 n va t vk] wx fun e w'=>e=.returned (.tuple #[])∧∃ u',MpI w w' M base u' (Fd.putM base out (E k))
theorem j8o (g:FuncId) (eg:∀ args w,(callFunc g args).run Tryz.prog w=.ok (.enter g args) w) (E:Mk.Fo→Fd.En) {w wx:World} {M:Nat} {base:List UInt8} {u:Value} (K:Nat→Prop) (hE:MapsC g E w M base K) (h:MpI w wx M base u [])
  (n title t:List UInt8) (a:List Mk.At) (k:Mk.Fo) (va vk:Value) (hva:∃ ao cap,va=.slice ao a.length cap) (hvk:FoV w K vk k) (hK:∀ b,K b→b < w.heap.size∧b ≠ M) (hl:k.bulk≤100000) :
  Calls Tryz.prog 70 #[V4 n va t vk,.string (st title),.func (.func g) #[.pointer (some ⟨M,0,none⟩)] #[]] wx fun e w'=>e=.returned (.tuple #[])∧∃ u',MpI w w' M base u' (Fd.z7t base title E k []):=by
 have hst:∀ l:List UInt8,(st l).toList=l:=fun l=>Lib.toList_data _
 obtain⟨b,o,cap,hv1,hlen,hat⟩:=hvk.at_
 obtain⟨aoa,capa,rfl⟩:=hva;have HAT:=Lib.hid hat
 have HEE:=Lib.hid hE;have HKK:=Lib.hid hK;have hfl:=Mk.Fo.z0k k;obtain⟨res,hres⟩:∃ res,Fd.z7t base title E k []=res:=⟨_,rfl⟩;rw[hres];have HRES:=Lib.hid hres;clear hat hE hK hres
 rcases hv1 with ⟨hv1,hKb⟩ | ⟨ao,hv1,hnil⟩
 ·have hKB:=HKK.out b hKb
  subst hv1;have hal:=(Below.refl wx.heap.size wx).alloc (Nat.le_refl _) (.cells #[.string (st n),.slice aoa a.length capa,.string (st t),.slice (some ⟨b,o,none⟩) k.len cap] 53);have I1:=Lib.hid (h.below hal);have NB:=Lib.hid (Blk.new wx 53 #[.string (st n),.slice aoa a.length capa,.string (st t),.slice (some ⟨b,o,none⟩) k.len cap]);clear hal h hvk;unfold V4;go_enter Tryz.func70,Tryz.ntmps70;go_upto_region 1 with fail;generalize wx.alloc (.cells #[.string (st n),.slice aoa a.length capa,.string (st t),.slice (some ⟨b,o,none⟩) k.len cap] 53)=w1 at I1 NB ⊢;have p3:w1.cell? ⟨wx.heap.size,3,none⟩=some (.slice (some ⟨b,o,none⟩) k.len cap):=Blk.cell NB.out 3;clear NB;go_wp2_with fail;clear p3
  go_loopw [11] (fun i wr=>∃ (j:Nat) (out:List Fd.En) (u':Value),j≤k.len∧i=.int .i64 j∧out.length≤12∧Hid (Fd.z7t base title E (k.drop j) out=res)∧Hid (MpI w wr M base u' out)) (fun i _=>k.len - (intOf i).toNat)
  case atStart=>exact⟨0,[],_,Nat.zero_le _,rfl,Nat.zero_le _,by show _=_;rw[Mk.Fo.drop_zero];exact HRES.out,I1⟩
  case round =>
   obtain⟨j,out,u',hj,rfl,hol,HA,I⟩:=hrel
   by_cases hlt:j < k.len
   ·obtain⟨n',a',t',kk,r,hd,hd1⟩:=Mk.Fo.z3a k j hlt
    obtain⟨va',vk',c0,c1,c2,c3,hva',hvk'⟩:=HAT.out j n' a' t' kk r hd;have hgm:wr.heap[b]? = w.heap[b]?:=I.out.ap.block b hKB.1 (fun e=>hKB.2 e);rw[← cell_of_block hgm] at c0 c1 c2 c3;obtain⟨aoa',capa',hva1',_⟩:=id hva';obtain⟨aok',capk',xsk',hvk1',_⟩:=id hvk';subst hva1';subst hvk1';have hdb:(k.drop j).bulk=1 + n'.length + t'.length + Mk.Fo.atB a' + kk.bulk + r.bulk:=by rw[hd];rfl
    have hdb2:=Mk.Fo.z0s k j;have HN:Hid (Fd.z7t base title E (k.drop (j + 1)) (if n'=title then Fd.putM base out (E kk) else out)=res):=by show _=_;rw[← HA.out,hd,hd1,Fd.j4m]
    have hal1:=(Below.refl wr.heap.size wr).alloc (Nat.le_refl _) (.cells #[.string (st n'),.slice aoa' a'.length capa',.string (st t'),.slice aok' kk.len capk'] 53);have I2:=Lib.hid (I.out.below hal1);have QB:=Lib.hid (Blk.new wr 53 #[.string (st n'),.slice aoa' a'.length capa',.string (st t'),.slice aok' kk.len capk']);have HCALL:=Lib.hid (HEE.out _ u' out n' a' t' kk _ _ I2.out hol ⟨hva',hvk'⟩ (by omega));have hji:(j:Int) < k.len:=by omega
    have hpl:=Fd.putM_len base out (E kk) hol;unfold V4 at HCALL;clear HA hd hd1 hva' hvk' hal1 I hgm hdb hdb2;go_upto_region 4 with fail;generalize wr.alloc (.cells #[.string (st n'),.slice aoa' a'.length capa',.string (st t'),.slice aok' kk.len capk'] 53)=w2 at I2 QB HCALL ⊢;have q0:w2.cell? ⟨wr.heap.size,0,none⟩=some (.string (st n')):=Blk.cell QB.out 0;have q1:w2.cell? ⟨wr.heap.size,1,none⟩=some (.slice aoa' a'.length capa'):=Blk.cell QB.out 1;have q2:w2.cell? ⟨wr.heap.size,2,none⟩=some (.string (st t')):=Blk.cell QB.out 2;have q3:w2.cell? ⟨wr.heap.size,3,none⟩=some (.slice aok' kk.len capk'):=Blk.cell QB.out 3;clear c0 c1 c2 c3 QB
    by_cases hn:n'=title
    ·have hnb:(n' == title)=true:=by simpa using hn
     rw[if_pos hn] at HN;clear hn;go_wp2_with fail;refine HCALL.out.mono ?_;rintro e w3 ⟨rfl,u3,hm3⟩;have I3:=Lib.hid hm3;clear hm3 HCALL I2 q0 q1 q2 q3;go_wp2_with fail;go_roundw
     case rel=>exact⟨j + 1,_,u3,by omega,by go_num,hpl,HN,I3⟩
     case measure=>simp[intOf];omega
    ·have hnb:(n' == title)=false:=beq_eq_false_iff_ne.2 hn
     rw[if_neg hn] at HN;clear hn HCALL;go_wp2_with fail;go_roundw
     case rel=>exact⟨j + 1,_,u',by omega,by go_num,hol,HN,I2⟩
     case measure=>simp[intOf];omega
   ·have hje:j=k.len:=by omega
    have HE:Hid (out=res):=by
     show _=_;rw[← HA.out,hje,Mk.Fo.z2q];rfl
    have hji:¬ (j:Int) < k.len:=by omega
    clear HA hje;go_wp2_with fail
    first | go_end0 | (simp only [Exit.inBlock,Exit.then];refine bodyPost_ret (results_none rfl _ _ _) rfl ?_) | refine bodyPost_ret (results_none rfl _ _ _) rfl ?_
    exact⟨rfl,_,by rw[← HE.out];exact I.out⟩
 ·subst hnil
  subst hv1;have hal:=(Below.refl wx.heap.size wx).alloc (Nat.le_refl _) (.cells #[.string (st n),.slice aoa a.length capa,.string (st t),.slice ao 0 cap] 53);have I1:=Lib.hid (h.below hal);have HE:Hid (([]:List Fd.En)=res):=HRES.out;clear hal h hvk HAT;unfold V4;go_enter Tryz.func70,Tryz.ntmps70;go_wp2_with fail
  go_loopw [11] (fun i wr=>i=.int .i64 0∧Hid (MpI w wr M base u [])) (fun _ _=>0)
  case atStart=>exact⟨rfl,I1⟩
  case round =>
   obtain⟨rfl,I⟩:=hrel;go_wp2_with fail
   first | go_end0 | (simp only [Exit.inBlock,Exit.then];refine bodyPost_ret (results_none rfl _ _ _) rfl ?_) | refine bodyPost_ret (results_none rfl _ _ _) rfl ?_
   exact⟨rfl,_,by rw[← HE.out];exact I.out⟩
theorem eg_item (args:Array Value) (w:World):(callFunc 71 args).run Tryz.prog w=.ok (.enter 71 args) w:=Z4 Tryz.func71 (by kernel_rfl) rfl _ _
theorem eg_entry (args:Array Value) (w:World):(callFunc 72 args).run Tryz.prog w=.ok (.enter 72 args) w:=Z4 Tryz.func72 (by kernel_rfl) rfl _ _
def z0c (base s:List UInt8) (w:World) (e:Ending) (w':World):Prop:=Below w.heap.size w w'∧∃ v,e=.returned (.tuple #[v,.int .i64 (Fd.z4b base s).2])∧z14 w' (Nw w w') v (Fd.z4b base s).1
theorem z0c.er {base s:List UInt8} {w w':World} {c:Int} (h:Fd.z4b base s=([],c)) (hb:Below w.heap.size w w'):z0c base s w (.returned (.tuple #[.slice none 0 0,.int .i64 c])) w':=by
 unfold z0c;rw[h];exact⟨hb,_,rfl,z14.nil _ _⟩
theorem z0c.ok {base s:List UInt8} {w w3 w':World} {M:Nat} {u:Value} {l:List Fd.En} (h:Fd.z4b base s=(l,0)) (hb:Below w.heap.size w w3) (hM:w.heap.size≤M) (hm:MpI w3 w' M base u l):z0c base s w (.returned (.tuple #[u,.int .i64 0])) w':=by
 unfold z0c;rw[h];have h3:=hb.size;refine⟨hb.trans (hm.ap.below hb.size (fun k hk e=>by have e:k=M:=e;omega)),u,rfl,?_⟩;obtain⟨ao,cap,h1,h2,h4⟩:=z2e.of_own (K:=Nw w w') hm.ow (fun g hg=>⟨Nat.le_trans h3 (hm.ow.lt g hg).1,(hm.ow.lt g hg).2⟩);exact⟨ao,cap,h1,h2,h4⟩
theorem q5u (base s:List UInt8) (w:World) (hg:Gl w) :
  Calls Tryz.prog 28 #[.string (st base),.string (st s)] w fun e w'=>z0c base s w e w':=by
 have hst:∀ l:List UInt8,(st l).toList=l:=fun l=>Lib.toList_data _
 have hmf:∀ (fn:Fn) (first cap:Array Value) (w:World),(Instr.makeFunc fn first cap).run Tryz.prog w=.ok (.func fn first cap) w:=fun _ _ _ _=>rfl
 have HG:=Lib.hid hg;have hlt:=hg.lt;have HF:Hid (Fd.z4b base s=if 3000 < base.length then ([],(2:Int)) else if (Fd.xmlM s).2 ≠ 0 then ([],(Fd.xmlM s).2) else if (Fd.xmlM s).1.name=Fd.tRss then (match Fd.q2m Fd.q1a (Fd.xmlM s).1.kids with | none=>([],(5:Int)) | some c=>(Fd.z7t base Fd.y0i Fd.q5y c.kids [],(0:Int))) else if (Fd.xmlM s).1.name=Fd.tFeed then (Fd.z7t base Fd.j2k Fd.q0q (Fd.xmlM s).1.kids [],(0:Int)) else ([],(7:Int))):=by
  show _=_;unfold Fd.z4b
  split
  ·rfl
  split
  ·rfl
  split
  ·cases Fd.q2m Fd.q1a (Fd.xmlM s).1.kids <;> rfl
  ·rfl
 have hz:(st base).size=base.length:=y9 base
 by_cases hbl:3000 < base.length
 ·have HE:Hid (Fd.z4b base s=([],2)):=by show _=_;rw[HF.out,if_pos hbl]
  have h2:3000 < (st base).size:=by omega
  clear HF hbl hz hg;go_enter Tryz.func28,Tryz.ntmps28;go_wp2_with fail;go_ret2;exact z0c.er HE.out (Below.refl _ _)
 have h2:¬ 3000 < (st base).size:=by omega
 have hb3:base.length≤3000:=by omega
 rw[if_neg hbl] at HF;have HX:=Lib.hid (xm_Read s w hg);have hxb:=Fd.y0u s;generalize Fd.xmlM s=x at HX HF hxb;clear hz hbl hg;go_enter Tryz.func28,Tryz.ntmps28;go_wp2_with fail;refine HX.out.mono ?_;rintro e w1 ⟨hb1,va,vk,rfl,hva,hvk⟩;obtain⟨aoa,capa,hva1,_⟩:=id hva;subst hva1;obtain⟨aok,capk,xsk,hvk1,_⟩:=id hvk;subst hvk1;have hal:=(Below.refl w1.heap.size w1).alloc (Nat.le_refl _) (.cells #[.string (st x.1.name),.slice aoa x.1.ats.length capa,.string (st []),.slice aok x.1.kids.len capk] 53);have hK1:∀ b,Nw w w1 b→b < w1.heap.size:=fun b q=>q.2
 have ND2:=Lib.hid (show NdV (w1.alloc (.cells #[.string (st x.1.name),.slice aoa x.1.ats.length capa,.string (st []),.slice aok x.1.kids.len capk] 53)) (Nw w w1) (.slice aoa x.1.ats.length capa) (.slice aok x.1.kids.len capk) ⟨x.1.name,x.1.ats,[],x.1.kids⟩ from ⟨hva.below hK1 hal,hvk.below hK1 hal⟩);have B2:=Lib.hid (hb1.trans (hal.mono hb1.size));have DB:=Lib.hid (Blk.new w1 53 #[.string (st x.1.name),.slice aoa x.1.ats.length capa,.string (st []),.slice aok x.1.kids.len capk]);have hs12:=hal.size;clear hb1 hva hvk hal HX;unfold V4;go_upto_region 4 with fail;have hD1:∀ b,Nw w w1 b→b < w1.heap.size:=hK1;generalize hw2:w1.alloc (.cells #[.string (st x.1.name),.slice aoa x.1.ats.length capa,.string (st []),.slice aok x.1.kids.len capk] 53)=w2 at ND2 B2 DB hs12 ⊢;clear hw2 hK1;obtain⟨x,c⟩:=x
 by_cases hc:c=0
 case neg =>
  have HE:Hid (Fd.z4b base s=([],c)):=by show _=_;rw[HF.out,if_pos hc]
  have hcb:(c == 0)=false:=beq_eq_false_iff_ne.2 hc;clear HF hc;go_wp2_with fail;go_ret2;exact z0c.er HE.out B2.out
 subst hc;have HF2:Hid (Fd.z4b base s=if x.name=Fd.tRss then (match Fd.q2m Fd.q1a x.kids with | none=>([],(5:Int)) | some c=>(Fd.z7t base Fd.y0i Fd.q5y c.kids [],(0:Int))) else if x.name=Fd.tFeed then (Fd.z7t base Fd.j2k Fd.q0q x.kids [],(0:Int)) else ([],(7:Int))):=by
  show _=_;rw[HF.out,if_neg (fun q=>q rfl)]
 have hxb2:x.kids.bulk≤15000:=by have:Mk.Fo.bulk x.kids + Mk.Fo.atB x.ats≤15000:=hxb;omega
 clear HF hxb;have hal3:=(Below.refl w2.heap.size w2).alloc (Nat.le_refl _) (.cells #[.string (st base),.slice none 0 0] 118);have I3:Hid (MpI (w2.alloc (.cells #[.string (st base),.slice none 0 0] 118)) (w2.alloc (.cells #[.string (st base),.slice none 0 0] 118)) w2.heap.size base (.slice none 0 0) []):=⟨by simp,Blk.new w2 _ _,Ap.refl _ _,World.ownsRow_nil _ _ _ _⟩;have hK2:∀ b,Nw w w1 b→b < w2.heap.size:=fun b q=>Nat.lt_of_lt_of_le (hD1 b q) hs12
 have ND3:Hid (NdV (w2.alloc (.cells #[.string (st base),.slice none 0 0] 118)) (Nw w w1) (.slice aoa x.ats.length capa) (.slice aok x.kids.len capk) ⟨x.name,x.ats,[],x.kids⟩):=⟨ND2.out.1.below hK2 hal3,ND2.out.2.below hK2 hal3⟩;have B3:=Lib.hid (B2.out.trans (hal3.mono B2.out.size));have DB3:=Lib.hid (Blk.alloc DB.out (.cells #[.string (st base),.slice none 0 0] 118));have hMw:w.heap.size≤w2.heap.size:=B2.out.size;have HG3:=Lib.hid (HG.out.below B3.out hlt);have hM:4 < w2.heap.size:=by omega
 have hK3:∀ b,Nw w w1 b→b < (w2.alloc (.cells #[.string (st base),.slice none 0 0] 118)).heap.size∧b ≠ w2.heap.size:=fun b q=>⟨by have:=hK2 b q;simp;omega,by have:=hK2 b q;omega⟩
 clear hal3 ND2 DB B2;go_upto_region 7 with fail;generalize w2.alloc (.cells #[.string (st base),.slice none 0 0] 118)=w3 at I3 ND3 B3 DB3 HG3 hK3 ⊢;generalize w2.heap.size=M at I3 hMw hM hK3 ⊢;have HK3:=Lib.hid hK3;have d0:w3.cell? ⟨w1.heap.size,0,none⟩=some (.string (st x.name)):=Blk.cell DB3.out 0;have d1:w3.cell? ⟨w1.heap.size,1,none⟩=some (.slice aoa x.ats.length capa):=Blk.cell DB3.out 1;have d2:w3.cell? ⟨w1.heap.size,2,none⟩=some (.string (st [])):=Blk.cell DB3.out 2;have d3:w3.cell? ⟨w1.heap.size,3,none⟩=some (.slice aok x.kids.len capk):=Blk.cell DB3.out 3;clear hK2 hK3 hD1 DB3
 by_cases hrss:x.name=Fd.tRss
 ·as_aux_lemma =>
  rw[if_pos hrss] at HF2;have hnb:(x.name == [114,115,115])=true:=by rw[hrss];rfl
  have HCH:=Lib.hid (q1j 69 q5o x.name Fd.q1a x.ats [] (.slice aoa x.ats.length capa) (.slice aok x.kids.len capk) x.kids (fun _=>true) (Nw w w1) w3 ⟨_,_,rfl⟩ ND3.out.2 (fun b q=>(HK3.out b q).1) (by omega) (z9r x.kids (Nw w w1) w3));have hcb:=z3r Fd.q1a (fun _=>true) x.kids;have HO:Hid (Fd.q2m Fd.q1a x.kids=Fd.z3g Fd.q1a (fun _=>true) x.kids):=rfl;have HR:Hid (childR Fd.q1a (fun _=>true) x.kids=(Fd.z3g Fd.q1a (fun _=>true) x.kids).getD Fd.Nd.none):=rfl;generalize childR Fd.q1a (fun _=>true) x.kids=cx at HCH hcb HR;generalize Fd.z3g Fd.q1a (fun _=>true) x.kids=co at HCH HO HR;rw[HO.out] at HF2;unfold V4 at HCH;clear hrss HO ND3;go_wp2_with fail;refine HCH.out.mono ?_;rintro e w4 ⟨hb4,cva,cvk,rfl,hnd⟩;obtain⟨caoa,ccapa,hcva,_⟩:=id hnd.1;subst hcva;obtain⟨caok,ccapk,cxs,hcvk,_⟩:=id hnd.2;subst hcvk;have hal4:=(Below.refl w4.heap.size w4).alloc (Nat.le_refl _) (.cells #[.string (st cx.name),.slice caoa cx.ats.length ccapa,.string (st cx.text),.slice caok cx.kids.len ccapk] 53);have I5:=Lib.hid ((I3.out.below hb4).below hal4);have B5:=Lib.hid (B3.out.trans ((hb4.trans (hal4.mono hb4.size)).mono B3.out.size));have CB:=Lib.hid (Blk.new w4 53 #[.string (st cx.name),.slice caoa cx.ats.length ccapa,.string (st cx.text),.slice caok cx.kids.len ccapk]);have HK4:Hid (∀ b,Nw w w1 b→b < w4.heap.size):=fun b q=>Nat.lt_of_lt_of_le (HK3.out b q).1 hb4.size
  have ND5:Hid (NdV (w4.alloc (.cells #[.string (st cx.name),.slice caoa cx.ats.length ccapa,.string (st cx.text),.slice caok cx.kids.len ccapk] 53)) (Nw w w1) (.slice caoa cx.ats.length ccapa) (.slice caok cx.kids.len ccapk) cx):=⟨hnd.1.below HK4.out hal4,hnd.2.below HK4.out hal4⟩;have B34:=Lib.hid (hb4.trans (hal4.mono hb4.size));clear hb4 hnd hal4 HCH d0 d1 d2 d3;go_upto_region 11 with fail;generalize w4.alloc (.cells #[.string (st cx.name),.slice caoa cx.ats.length ccapa,.string (st cx.text),.slice caok cx.kids.len ccapk] 53)=w5 at I5 B5 CB ND5 B34 ⊢
  cases co with
  | none =>
   have HE:Hid (Fd.z4b base s=([],5)):=HF2;have hs0:(none:Option Fd.Nd).isSome=false:=rfl;clear HF2;go_wp2_with fail;go_ret2;exact z0c.er HE.out B5.out
  | some y =>
   have hcy:cx=y:=HR.out;subst hcy;have HE:Hid (Fd.z4b base s=(Fd.z7t base Fd.y0i Fd.q5y cx.kids [],0)):=HF2;have hs0:(some cx).isSome=true:=rfl;have e0:w5.cell? ⟨w4.heap.size,0,none⟩=some (.string (st cx.name)):=Blk.cell CB.out 0;have e1:w5.cell? ⟨w4.heap.size,1,none⟩=some (.slice caoa cx.ats.length ccapa):=Blk.cell CB.out 1;have e2:w5.cell? ⟨w4.heap.size,2,none⟩=some (.string (st cx.text)):=Blk.cell CB.out 2;have e3:w5.cell? ⟨w4.heap.size,3,none⟩=some (.slice caok cx.kids.len ccapk):=Blk.cell CB.out 3;have I55:Hid (MpI w5 w5 M base (.slice none 0 0) []):=⟨I5.out.mb.lt,I5.out.mb,Ap.refl _ _,World.ownsRow_nil _ _ _ _⟩;have HK5:Hid (∀ b,Nw w w1 b→b < w5.heap.size∧b ≠ M):=fun b q=>⟨Nat.lt_of_lt_of_le (HK3.out b q).1 B34.out.size,(HK3.out b q).2⟩
   have HMC:Hid (MapsC 71 Fd.q5y w5 M base (Nw w w1)):=fun wx u out n a t k va vk hm hol hnd hl=>mp_item (HG3.out.below B34.out (by have:=HG3.out.lt;omega)) hM hm hb3 hol n t a k va vk (Nw w w1) hnd HK5.out hl
   have HEA:=Lib.hid (j8o 71 eg_item Fd.q5y (Nw w w1) HMC.out I55.out cx.name Fd.y0i cx.text cx.ats cx.kids (.slice caoa cx.ats.length ccapa) (.slice caok cx.kids.len ccapk) ⟨_,_,rfl⟩ ND5.out.2 HK5.out (by omega));unfold V4 at HEA;clear HF2 HR CB I5 HMC ND5 I3 hcb;go_wp2_with fail;refine HEA.out.mono ?_;rintro e w6 ⟨rfl,u6,hm6⟩;have I6:=Lib.hid hm6;clear hm6 HEA I55 e0 e1 e2 e3;have m1:w6.cell? ⟨M,1,none⟩=some u6:=Blk.cell I6.out.mb 1;go_wp2_with fail;go_ret2;exact z0c.ok HE.out B5.out hMw I6.out
 rw[if_neg hrss] at HF2;have hnb:(x.name == [114,115,115])=false:=beq_eq_false_iff_ne.2 hrss;clear hrss
 by_cases hfeed:x.name=Fd.tFeed
 ·as_aux_lemma =>
  rw[if_pos hfeed] at HF2;have hnf:(x.name == [102,101,101,100])=true:=by rw[hfeed];rfl
  have HMC:Hid (MapsC 72 Fd.q0q w3 M base (Nw w w1)):=fun wx u out n a t k va vk hm hol hnd hl=>mp_entry HG3.out hM hm hb3 hol n t a k va vk (Nw w w1) hnd HK3.out hl
  have HEA:=Lib.hid (j8o 72 eg_entry Fd.q0q (Nw w w1) HMC.out I3.out x.name Fd.j2k [] x.ats x.kids (.slice aoa x.ats.length capa) (.slice aok x.kids.len capk) ⟨_,_,rfl⟩ ND3.out.2 HK3.out (by omega));unfold V4 at HEA;clear hfeed HMC ND3 I3;go_wp2_with fail;refine HEA.out.mono ?_;rintro e w6 ⟨rfl,u6,hm6⟩;have I6:=Lib.hid hm6;clear hm6 HEA d0 d1 d2 d3;have m1:w6.cell? ⟨M,1,none⟩=some u6:=Blk.cell I6.out.mb 1;go_wp2_with fail;go_ret2;exact z0c.ok HF2.out B3.out hMw I6.out
 ·rw[if_neg hfeed] at HF2
  have hnf:(x.name == [102,101,101,100])=false:=beq_eq_false_iff_ne.2 hfeed;clear hfeed;go_wp2_with fail;go_ret2;exact z0c.er HF2.out B3.out
theorem z14.get {w:World} {K:Nat→Prop} {v:Value} {l:List Fd.En} (h:z14 w K v l):∃ ao cap,v=.slice ao l.length cap∧l.length≤maxLen∧∀ k (hk:k < l.length),∃ g o,ao=some ⟨g,o,none⟩∧K g∧w.cell? ⟨g,o + k * 5,none⟩=some (.string (st l[k].id))∧w.cell? ⟨g,o + k * 5 + 1,none⟩=some (.string (st l[k].ti))∧w.cell? ⟨g,o + k * 5 + 2,none⟩=some (.string (st l[k].li))∧w.cell? ⟨g,o + k * 5 + 3,none⟩=some (.int .i64 l[k].at_)∧w.cell? ⟨g,o + k * 5 + 4,none⟩=some (.string (st l[k].ht)):=by
 have hm:=h;obtain⟨g,o,cap,hK,hv,hc⟩:=h.at_
 obtain⟨ao',cap',h1,_,_,h4⟩:=hm;refine⟨ao',cap',h1,h4,fun k hk=>?_⟩
 rcases hv with hv | ⟨ao2,hv,h0⟩
 ·rw[h1] at hv
  injection hv with e1 _ _;exact⟨g,o,e1,hK (by intro e;subst e;simp at hk),hc k hk⟩
 ·subst h0;simp at hk
theorem Tryz.guardEnt:Tryz.prog.eqGuardType Tryz.prog.depth 44=false:=by kernel_rfl
theorem j0q (a b:Fd.En) (w:World):(binOp .neq 44 (.agg #[.string (st a.id),.string (st a.ti),.string (st a.li),.int .i64 a.at_,.string (st a.ht)]) (.agg #[.string (st b.id),.string (st b.ti),.string (st b.li),.int .i64 b.at_,.string (st b.ht)])).run Tryz.prog w=.ok (.bool (!decide (a=b))) w:=by
 have hst:∀ l,(st l).toList=l:=fun l=>Lib.toList_data _
 rw[run_neq_struct];simp[run_equalIn_struct,go_sem];simp only [hst];obtain⟨a1,a2,a3,a4,a5⟩:=a;obtain⟨b1,b2,b3,b4,b5⟩:=b;have e:decide ((⟨a1,a2,a3,a4,a5⟩:Fd.En)=⟨b1,b2,b3,b4,b5⟩)=decide (a1=b1∧a2=b2∧a3=b3∧a4=b4∧a5=b5):=by
  rw[Bool.eq_iff_iff];simp
 rw[e]
 by_cases h1:a1=b1
 ·by_cases h2:a2=b2
  ·by_cases h3:a3=b3
   ·by_cases h4:a4=b4
    ·by_cases h5:a5=b5
     ·simp[h1,h2,h3,h4,h5]
     ·simp[h1,h2,h3,h4,h5]
    ·simp[h1,h2,h3,h4]
   ·simp[h1,h2,h3]
  ·simp[h1,h2]
 ·simp[h1]
theorem q3o (l m:List Fd.En) (v u:Value) (K K2:Nat→Prop) (w:World) (hv:z14 w K v l) (hu:z14 w K2 u m) (hK:∀ b,K b→b < w.heap.size) (hK2:∀ b,K2 b→b < w.heap.size) (hl:l.length≤33554432) :
  Calls Tryz.prog 29 #[v,u] w fun e w'=>e=.returned (.bool (decide (l=m)))∧Below w.heap.size w w':=by
 obtain⟨ao,cap,hv1,hvm,hvc⟩:=hv.get;obtain⟨au,cau,hu1,hum,huc⟩:=hu.get;subst hv1;subst hu1;have HV:=Lib.hid hvc;have HU:=Lib.hid huc;have HK:=Lib.hid hK;have HK2:=Lib.hid hK2;clear hvc huc hv hu hvm hum hK hK2
 by_cases hlen:l.length=m.length
 ·have HLE:=Lib.hid hlen
  have hm:m.length=l.length:=hlen.symm;rw[hm];clear hlen hm;go_enter Tryz.func29,Tryz.ntmps29;go_wp2_with fail
  go_loopw [5] (fun i wr=>∃ k:Nat,k≤l.length∧i=.int .i64 k∧Hid (l.take k=m.take k)∧Hid (Below w.heap.size w wr)) (fun i _=>l.length - (intOf i).toNat)
  case atStart=>exact⟨0,Nat.zero_le _,rfl,rfl,Below.refl _ _⟩
  case round =>
   obtain⟨k,hk,rfl,HT,BL⟩:=hrel
   by_cases hlt:k < l.length
   ·have hlt2:k < m.length:=by have:=HLE.out;omega
    obtain⟨g,o,rfl,hKg,c0,c1,c2,c3,c4⟩:=HV.out k hlt;obtain⟨g2,o2,rfl,hKg2,d0,d1,d2,d3,d4⟩:=HU.out k hlt2;rw[← BL.out.cell (p:=⟨g,_,none⟩) (HK.out g hKg)] at c0 c1 c2 c3 c4;rw[← BL.out.cell (p:=⟨g2,_,none⟩) (HK2.out g2 hKg2)] at d0 d1 d2 d3 d4;have hne:=fun W=>j0q l[k] m[k] W
    have hgd:=fun X Y W=>run_eqGuard_agg (P:=Tryz.prog) W .neq 44 X Y #[.string (st l[k].id),.string (st l[k].ti),.string (st l[k].li),.int .i64 l[k].at_,.string (st l[k].ht)] #[.string (st m[k].id),.string (st m[k].ti),.string (st m[k].li),.int .i64 m[k].at_,.string (st m[k].ht)] Tryz.guardEnt
    have HS:Hid (l.take (k + 1)=m.take (k + 1)↔l[k]=m[k]):=take_same l m k hlt hlt2 HT.out;have HS2:Hid (l[k] ≠ m[k]→l ≠ m):=fun h e=>h (by subst e;rfl)
    obtain⟨x,hx⟩:∃ x,l[k]=x:=⟨_,rfl⟩;obtain⟨y,hy⟩:∃ y,m[k]=y:=⟨_,rfl⟩;rw[hx] at c0 c1 c2 c3 c4;rw[hy] at d0 d1 d2 d3 d4;rw[hx,hy] at hne hgd HS HS2;clear hx hy
    by_cases hxy:x=y
    ·have hdx:decide (x=y)=true:=decide_eq_true hxy
     rw[hdx] at hne;have HT2:Hid (l.take (k + 1)=m.take (k + 1)):=HS.out.2 hxy;clear hxy hdx HS HS2 HT;go_upto_region 6 with fail
     go_region
     all_goals
      go_wp2_with fail;go_roundw
      case rel=>exact⟨k + 1,by omega,by go_num,HT2.out,BL.out.drew⟩
      case measure=>simp[intOf];omega
    ·have hdx:decide (x=y)=false:=decide_eq_false hxy
     rw[hdx] at hne;have HN:Hid (decide (l=m)=false):=decide_eq_false (HS2.out hxy);clear hxy hdx HS HS2 HT;go_upto_region 6 with fail
     go_region
     all_goals
      go_wp2_with fail;go_ret;exact⟨Z7 (by rw[HN.out]),BL.out.drew⟩
   ·have HN:Hid (decide (l=m)=true):=by
     show _=_;have h:=HT.out;have h2:=HLE.out;rw[List.take_of_length_le (by omega),List.take_of_length_le (by omega)] at h;exact decide_eq_true h
    clear HT HLE;go_wp2_with fail;go_ret;exact⟨Z7 (by rw[HN.out]),BL.out⟩
 ·have HN:Hid (decide (l=m)=false):=decide_eq_false (fun e=>hlen (by rw[e]))
  have hln:¬ (l.length:Int)=m.length:=by omega
  clear hlen;go_enter Tryz.func29,Tryz.ntmps29;go_wp2_with fail;go_ret;exact⟨Z7 (by rw[HN.out]),Below.refl _ _⟩
theorem j5n (l:List Fd.En) (id:List UInt8) (v:Value) (K:Nat→Prop) (w:World) (hv:z14 w K v l) (hK:∀ b,K b→b < w.heap.size) (hl:l.length≤33554432) :
  Calls Tryz.prog 31 #[v,.string (st id)] w fun e w'=>Below w.heap.size w w'∧∃ i:Int,e=.returned (.int .i64 i)∧-1≤i∧decide (0≤i)=l.any fun z=>z.id == id:=by
 have hst:∀ l:List UInt8,(st l).toList=l:=fun l=>Lib.toList_data _
 obtain⟨ao,cap,hv1,hvm,hvc⟩:=hv.get;subst hv1;have HV:=Lib.hid hvc;have HK:=Lib.hid hK;clear hvc hv hvm hK;go_enter Tryz.func31,Tryz.ntmps31;go_wp2_with fail
 go_loopw [5] (fun i wr=>∃ k:Nat,k≤l.length∧i=.int .i64 k∧Hid ((l.any fun z=>z.id == id)=(l.drop k).any fun z=>z.id == id)∧Hid (Below w.heap.size w wr)) (fun i _=>l.length - (intOf i).toNat)
 case atStart=>exact⟨0,Nat.zero_le _,rfl,rfl,Below.refl _ _⟩
 case round =>
  obtain⟨k,hk,rfl,HA,BL⟩:=hrel
  by_cases hlt:k < l.length
  ·obtain⟨g,o,rfl,hKg,c0,c1,c2,c3,c4⟩:=HV.out k hlt
   rw[← BL.out.cell (p:=⟨g,_,none⟩) (HK.out g hKg)] at c0 c1 c2 c3 c4;have HD:Hid ((l.any fun z=>z.id == id)=((l[k].id == id) || (l.drop (k + 1)).any fun z=>z.id == id)):=by show _=_;rw[HA.out,List.drop_eq_getElem_cons hlt];rfl
   generalize l[k]=x at c0 c1 c2 c3 c4 HD;have hki:(k:Int) < l.length:=by omega
   clear HA c1 c2 c3 c4
   by_cases hx:x.id=id
   ·have hxb:(x.id == id)=true:=by simpa using hx
    have HE:Hid ((l.any fun z=>z.id == id)=true):=by show _=_;rw[HD.out,hxb];rfl
    clear hx HD;go_wp2_with fail;go_ret;exact⟨BL.out,k,rfl,by omega,by rw[HE.out];exact decide_eq_true (by omega)⟩
   ·have hxb:(x.id == id)=false:=beq_eq_false_iff_ne.2 hx
    have HE:Hid ((l.any fun z=>z.id == id)=(l.drop (k + 1)).any fun z=>z.id == id):=by show _=_;rw[HD.out,hxb];rfl
    clear hx HD;go_wp2_with fail;go_roundw
    case rel=>exact⟨k + 1,by omega,by go_num,HE,BL⟩
    case measure=>simp[intOf];omega
  ·have HE:Hid ((l.any fun z=>z.id == id)=false):=by show _=_;rw[HA.out,List.drop_of_length_le (by omega)];rfl
   have hki:¬ (k:Int) < l.length:=by omega
   clear HA;go_wp2_with fail;go_ret;exact⟨BL.out,-1,rfl,by omega,by rw[HE.out];rfl⟩
end Go.Proofs.YtjonkbdldebkiaaGreatDoor
namespace Mk
open Fo
theorem j7c (e:Bs):∀ l:List At,z4v e l=false→Z5 [] e l=l
 | [],_=>rfl
 | x :: l,h=>by
  unfold z4v at h;rw[List.any_cons,Bool.or_eq_false_iff] at h;obtain⟨h1,h2⟩:=h;rw[Bool.or_eq_false_iff] at h1;have ih:=j7c e l h2;unfold Z5 at ih ⊢;rw[List.flatMap_cons,ih];unfold V9;rw[if_neg (by rw[h1.1];simp),q7w]
  split
  ·rename_i hl
   have hg:V3 x.v=true:=by
    have:=h1.2;rw[hl] at this
    simpa using this
   rw[if_pos hg];rfl
  ·rfl
theorem gone_not (n:Bs) (h:X3 n=true):z8m n=false:=by
 cases hg:z8m n with
 | false=>rfl
 | true =>
  unfold z8m at hg;rw[Bool.or_eq_true,Bool.or_eq_true,beq_iff_eq,beq_iff_eq,beq_iff_eq] at hg
  rcases hg with (e | e) | e <;> (rw[e] at h;exact absurd h (by decide))
theorem z8q:∀ f:Fo,right f→z2t f=true→Stable [] f
 | nil,_,_=>trivial
 | node n a t k r,hr,h=>by
  obtain⟨r1,r2,r3,r4,r5⟩:=hr;rw[z2t,Bool.and_eq_true,Bool.not_eq_true',Bool.or_eq_false_iff] at h;obtain⟨⟨h1,h2⟩,h3⟩:=h;refine⟨?_,z8q k r4 (by simpa using h2),z8q r r5 h3⟩;intro hn;rw[decide_eq_true hn,Bool.true_and,Bool.or_eq_false_iff,Bool.or_eq_false_iff] at h1;obtain⟨⟨g1,g2⟩,g3⟩:=h1;have ga:X3 n=true:=by simpa using g1
  refine⟨gone_not n ga,ga,r2 hn,j7c n a g2,?_⟩;intro q;rw[decide_eq_true q.1,q.2] at g3;exact absurd g3 (by simp)
end Mk
namespace Fd
open Mk
theorem j4r (s:Bs) (h:z5g s=true):html [] s=s:=by
 unfold z5g at h;rw[Bool.and_eq_true,Bool.and_eq_true,beq_iff_eq] at h;obtain⟨h1,h2,h3⟩:=h;obtain⟨c1,c2⟩:=Mk.Bld.q1f (toks s) (q6o s);have hst:=z8q _ (z2f _ _ _ c1) h2;have hcl:clean [] (build (toks s))=build (toks s):=by
  unfold clean;exact q38 [] _ [] .nil hst (z2f _ _ _ c1) c1
 unfold html;rw[hcl,h3]
end Fd
namespace Fd
def rssB:Bs:=[60,114,115,115,62,60,99,104,97,110,110,101,108,62,60,105,116,101,109,62,60,116,105,116,108,101,62,65,32,38,97,109,112,59,97,109,112,59,32,66,60,47,116,105,116,108,101,62,60,108,105,110,107,62,120,60,47,108,105,110,107,62,60,103,117,105,100,62,49,60,47,103,117,105,100,62,60,112,117,98,68,97,116,101,62,84,104,117,44,32,48,49,32,74,97,110,32,49,57,55,48,32,48,48,58,48,48,58,49,48,32,71,77,84,60,47,112,117,98,68,97,116,101,62,60,100,101,115,99,114,105,112,116,105,111,110,62,38,108,116,59,98,32,111,110,99,108,105,99,107,61,49,62,99,38,108,116,59,47,98,62,60,47,100,101,115,99,114,105,112,116,105,111,110,62,60,47,105,116,101,109,62,60,105,116,101,109,62,60,108,105,110,107,62,121,60,47,108,105,110,107,62,60,47,105,116,101,109,62,60,47,99,104,97,110,110,101,108,62,60,47,114,115,115,62]
def j7d:Bs:=[60,102,101,101,100,62,60,101,110,116,114,121,62,60,105,100,62,105,60,47,105,100,62,60,108,105,110,107,32,114,101,108,61,39,115,101,108,102,39,32,104,114,101,102,61,39,104,116,116,112,58,47,47,115,39,47,62,60,108,105,110,107,32,104,114,101,102,61,39,104,116,116,112,58,47,47,116,39,47,62,60,117,112,100,97,116,101,100,62,49,57,55,48,45,48,49,45,48,49,84,48,48,58,48,48,58,48,49,90,60,47,117,112,100,97,116,101,100,62,60,115,117,109,109,97,114,121,62,115,60,47,115,117,109,109,97,114,121,62,60,47,101,110,116,114,121,62,60,47,102,101,101,100,62]
def hB:Bs:=[104,116,116,112,58,47,47,104,47]
theorem j7i:z4b hB rssB=([⟨[49],[65,32,38,97,109,112,59,32,66],[104,116,116,112,58,47,47,104,47,120],10,[60,98,62,99,60,47,98,62]⟩,⟨[104,116,116,112,58,47,47,104,47,121],[],[104,116,116,112,58,47,47,104,47,121],0,[]⟩],0):=by decide +kernel
theorem j3p:z4b [] j7d=([⟨[105],[],[104,116,116,112,58,47,47,116],1,[115]⟩],0):=by decide +kernel
theorem j3s:z4b [] [60,120,47,62]=([],7):=by decide +kernel
theorem q9g:z0r ⟨[49],[65,32,38,97,109,112,59,32,66],[104,116,116,112,58,47,47,104,47,120],10,[60,98,62,99,60,47,98,62]⟩=0:=by decide +kernel
end Fd
namespace Go.Proofs.YtjonkbdldebkiaaGreatDoor
open Go.RowKit
def feE1:Fd.En:=⟨[49],[65,32,38,97,109,112,59,32,66],[104,116,116,112,58,47,47,104,47,120],10,[60,98,62,99,60,47,98,62]⟩
def feE2:Fd.En:=⟨[104,116,116,112,58,47,47,104,47,121],[],[104,116,116,112,58,47,47,104,47,121],0,[]⟩
def feE3:Fd.En:=⟨[105],[],[104,116,116,112,58,47,47,116],1,[115]⟩
theorem law_rss (w:World):Calls Tryz.prog 38 #[] w fun e w'=>e=.returned (.string (st Fd.rssB))∧w'=w:=by
 go_enter Tryz.func38,Tryz.ntmps38;go_wp2_with fail;go_ret;exact⟨rfl,rfl⟩
theorem z14.of_blk {w:World} {g cap:Nat} {K:Nat→Prop} {l:List Fd.En} (hb:Blk w g 44 (Y7 l).toArray) (hK:K g) (hl:l.length≤cap) (hm:l.length≤maxLen):z14 w K (.slice (some ⟨g,0,none⟩) l.length cap) l :=
 ⟨_,cap,rfl,.inr ⟨g,0,rfl,hK,fun i v q=>by rw[Nat.zero_add];exact(Blk.cell hb i).trans (by simpa using q)⟩,hl,hm⟩
theorem q7y (w:World) (hg:Gl w) :
  Calls Tryz.prog 20 #[] w fun e w'=>e=.returned (.bool true)∧Below w.heap.size w w':=by
 have hlt:=hg.lt;have HG:=Lib.hid hg;have h1:=q5u Fd.hB Fd.rssB w hg;unfold z0c at h1;rw[show Fd.z4b Fd.hB Fd.rssB=([feE1,feE2],0) from Fd.j7i] at h1;have H1:=Lib.hid h1;have H2:Hid (∀ W,Gl W→Calls Tryz.prog 28 #[.string (st []),.string (st Fd.j7d)] W fun e w'=>z0c [] Fd.j7d W e w'):=fun W hW=>q5u [] Fd.j7d W hW
 unfold z0c at H2;rw[show Fd.z4b [] Fd.j7d=([feE3],0) from Fd.j3p] at H2;have H3:Hid (∀ W,Gl W→Calls Tryz.prog 28 #[.string (st []),.string (st [60,120,47,62])] W fun e w'=>z0c [] [60,120,47,62] W e w'):=fun W hW=>q5u [] [60,120,47,62] W hW
 unfold z0c at H3;rw[Fd.j3s] at H3;clear h1 hg;go_enter Tryz.func20,Tryz.ntmps20;go_wp2_with fail;refine(law_rss w).mono ?_;rintro e wx ⟨rfl,hwx⟩;subst wx;go_wp2_with fail;refine H1.out.mono ?_;rintro e w1 ⟨hb1,v1,rfl,hv1⟩;have B1:=Lib.hid hb1;have HV1:=Lib.hid hv1;obtain⟨ao1,cap1,hs1,_⟩:=id hv1;subst hs1;clear hb1 hv1 H1;go_wp2_with fail;refine(H2.out _ (HG.out.below B1.out hlt)).mono ?_;rintro e w2 ⟨hb2,v2,rfl,hv2⟩;have B2:=Lib.hid (B1.out.trans (hb2.mono B1.out.size));have HV12:Hid (z14 w2 (fun b=>b < w2.heap.size) _ _):=HV1.out.frame (fun b q=>⟨Nat.lt_of_lt_of_le q.2 hb2.size,hb2.block b q.2⟩);have HV2:Hid (z14 w2 (fun b=>b < w2.heap.size) v2 _):=hv2.frame (fun b q=>⟨q.2,rfl⟩);obtain⟨ao2,cap2,hs2,_⟩:=id hv2;subst hs2;clear hb2 hv2 H2 HV1 B1;go_wp2_with fail;refine(H3.out _ (HG.out.below B2.out hlt)).mono ?_;rintro e w3 ⟨hb3,v3,rfl,hv3⟩;have B3:=Lib.hid (B2.out.trans (hb3.mono B2.out.size));have HV13:Hid (z14 w3 (fun b=>b < w3.heap.size) _ _):=HV12.out.frame (fun b q=>⟨Nat.lt_of_lt_of_le q hb3.size,hb3.block b q⟩);have HV23:Hid (z14 w3 (fun b=>b < w3.heap.size) _ _):=HV2.out.frame (fun b q=>⟨Nat.lt_of_lt_of_le q hb3.size,hb3.block b q⟩);obtain⟨ao3,cap3,hs3,_⟩:=id hv3;subst hs3;clear hb3 hv3 H3 HV12 HV2 B2;have same:∀ (l:List Fd.En) (v:Value) (g:Nat) (W:World),z14 W (fun b=>b < W.heap.size) v l→Blk W g 44 (Y7 l).toArray→l.length≤12→Calls Tryz.prog 29 #[v,.slice (some ⟨g,0,none⟩) l.length l.length] W fun e w'=>e=.returned (.bool true)∧Below W.heap.size W w':=by
  intro l v g W hv hb hl;have:=q3o l l v (.slice (some ⟨g,0,none⟩) l.length l.length) _ (fun b=>b < W.heap.size) W hv (z14.of_blk hb hb.lt (Nat.le_refl _) (by unfold maxLen;omega)) (fun b q=>q) (fun b q=>q) (by omega)
  rwa [decide_eq_true (rfl:l=l)] at this
 have hal4:=(Below.refl w3.heap.size w3).alloc (Nat.le_refl _) (.cells (Y7 [feE1,feE2]).toArray 44);have HS1:=Lib.hid (same [feE1,feE2] _ w3.heap.size _ (HV13.out.frame (fun b q=>⟨Nat.lt_of_lt_of_le q hal4.size,hal4.block b q⟩)) (Blk.new w3 44 (Y7 [feE1,feE2]).toArray) (by decide));have B4:=Lib.hid (B3.out.trans (hal4.mono B3.out.size));have HB34:=Lib.hid hal4;have HSAME:=Lib.hid same;clear hal4 same;go_wp2_with fail;refine HS1.out.mono ?_;rintro e w5 ⟨rfl,hb5⟩;have B35:=Lib.hid (HB34.out.trans (hb5.mono HB34.out.size));have B5:=Lib.hid (B4.out.trans (hb5.mono B4.out.size));clear hb5 HS1 B4 HB34;have HV15:Hid (z14 w5 (fun b=>b < w5.heap.size) (.slice ao1 2 cap1) [feE1,feE2]):=HV13.out.frame (fun b q=>⟨Nat.lt_of_lt_of_le q B35.out.size,B35.out.block b q⟩);have HV25:Hid (z14 w5 (fun b=>b < w5.heap.size) (.slice ao2 1 cap2) [feE3]):=HV23.out.frame (fun b q=>⟨Nat.lt_of_lt_of_le q B35.out.size,B35.out.block b q⟩);have hal6:=(Below.refl w5.heap.size w5).alloc (Nat.le_refl _) (.cells (Y7 [feE3]).toArray 44);have HS2:=Lib.hid (HSAME.out [feE3] _ w5.heap.size _ (HV25.out.frame (fun b q=>⟨Nat.lt_of_lt_of_le q hal6.size,hal6.block b q⟩)) (Blk.new w5 44 (Y7 [feE3]).toArray) (by decide));have HB56:=Lib.hid hal6;clear hal6 HSAME HV13 HV23 B35 HV25;go_wp2_with fail;refine HS2.out.mono ?_;rintro e w7 ⟨rfl,hb7⟩;have B57:=Lib.hid (HB56.out.trans (hb7.mono HB56.out.size));have B7:=Lib.hid (B5.out.trans (B57.out.mono B5.out.size));have HV17:z14 w7 (fun b=>b < w7.heap.size) (.slice ao1 2 cap1) [feE1,feE2]:=HV15.out.frame (fun b q=>⟨Nat.lt_of_lt_of_le q B57.out.size,B57.out.block b q⟩);clear hb7 HS2 HB56 HV15 B57 B5;obtain⟨ao',cap',hv',hm',hc'⟩:=HV17.get;injection hv' with e1 e2 e3;subst e1;obtain⟨g,o,rfl,_,c0,c1,c2,c3,c4⟩:=hc' 0 (by decide);rw[Nat.zero_mul,Nat.add_zero] at c0 c1 c2 c3 c4;have HCK:=Lib.hid (q5t feE1 w7 (HG.out.below B7.out hlt));rw[show Fd.z0r feE1=0 from Fd.q9g] at HCK;have c0:w7.cell? ⟨g,o,none⟩=some (.string (st [49])):=c0;have c1:w7.cell? ⟨g,o + 1,none⟩=some (.string (st [65,32,38,97,109,112,59,32,66])):=c1;have c2:w7.cell? ⟨g,o + 2,none⟩=some (.string (st [104,116,116,112,58,47,47,104,47,120])):=c2;have c3:w7.cell? ⟨g,o + 3,none⟩=some (.int .i64 10):=c3;have c4:w7.cell? ⟨g,o + 4,none⟩=some (.string (st [60,98,62,99,60,47,98,62])):=c4;clear HV17 hc' hm';go_wp2_with fail;refine HCK.out.mono ?_;rintro e w8 ⟨rfl,hb8⟩;have B8:=Lib.hid (B7.out.trans (hb8.mono B7.out.size));clear hb8 HCK B7;go_wp2_with fail;go_ret;exact⟨rfl,B8.out⟩
end Go.Proofs.YtjonkbdldebkiaaGreatDoor
namespace Mk
theorem adj_at:∀ (l:List Tok) (p:Bool) (j:Nat) (t u:Tok),Adj p l→l[j]? = some t→l[j + 1]? = some u→u.kind=1→t.kind ≠ 1
 | [],_,_,_,_,_,h,_,_=>by simp at h
 | a :: r,p,0,t,u,ha,h1,h2,hk=>by
  have e:a=t:=by simpa using h1
  subst e
  cases r with
  | nil=>simp at h2
  | cons b r =>
   have e:b=u:=by simpa using h2
   subst e;have:=ha.2.1 hk
   simpa using this
 | a :: r,p,j + 1,t,u,ha,h1,h2,hk=>adj_at r _ j t u ha.2 (by simpa using h1) (by simpa using h2) hk
theorem j1z {n:Bs} (h:isName n=true):n.length≤20:=by
 unfold isName at h;rw[Bool.and_eq_true,Bool.and_eq_true] at h;exact of_decide_eq_true h.1.2
end Mk
namespace Go.Proofs.YtjonkbdldebkiaaGreatDoor
open Go.RowKit
theorem tk_one (t:Mk.Tok) (ht:Mk.Bld.z3m t) (va:Value) (K:Nat→Prop) (w:World) (hva:AtsV w K va t.ats) (hK:∀ b,K b→b < w.heap.size) (hb:Mk.Fo.atB t.ats≤1048576) :
  Calls Tryz.prog 128 #[tokV t va] w fun e w'=>e=.returned (.int .i64 0)∧Below w.heap.size w w':=by
 have hst:∀ l:List UInt8,(st l).toList=l:=fun l=>Lib.toList_data _
 have hll:=Mk.z1u t.ats;obtain⟨kd,nm,ats,tx⟩:=t;obtain⟨aot,capt,hva1,hva2⟩:=id hva;subst hva1;unfold tokV;simp only at *;have hal:=(Below.refl w.heap.size w).alloc (Nat.le_refl _) (.cells #[.int .i64 kd,.string (st nm),.slice aot ats.length capt,.string (st tx)] 181);have AL:=Lib.hid hal
 rcases ht with ⟨k,h1,h2,h3⟩ | ⟨k,h1,h2,h3⟩ | ⟨k,h1,h2,h3⟩
 ·simp only at k h1 h2 h3
  subst k;subst h1;subst h2;have ht2:tx.isEmpty=false:=by cases tx with | nil=>exact absurd rfl h3 | cons _ _=>rfl
  clear hva hva2 hal h3;go_enter Tryz.func128,Tryz.ntmps128;go_wp2_with fail;go_ret;exact⟨rfl,AL.out⟩
 ·simp only at k h1 h2 h3
  subst k;subst h3;have hn:=Mk.j1z h1;have hnm:=fun W=>z8n (st nm) W (by rw[y9];omega)
  rw[z0y,h1] at hnm;have HN:=Lib.hid hnm;have HA:=Lib.hid (q65 ats _ K _ (hva.below hK hal) (fun b q=>Nat.lt_of_lt_of_le (hK b q) hal.size) (Nat.le_trans hb (by decide)));rw[h2] at HA;clear hva hva2 hal h1 h2 hnm;go_enter Tryz.func128,Tryz.ntmps128;go_wp2_with fail;refine(HN.out _).mono ?_;rintro e w2 ⟨rfl,rfl⟩;go_wp2_with fail;refine HA.out.mono ?_;rintro e w3 ⟨rfl,hb3⟩;have B3:=Lib.hid (AL.out.trans (hb3.mono AL.out.size));clear hb3 HA;go_wp2_with fail;go_ret;exact⟨rfl,B3.out⟩
 ·simp only at k h1 h2 h3
  subst k;subst h3;subst h2;have hn:=Mk.j1z h1;have hnm:=fun W=>z8n (st nm) W (by rw[y9];omega)
  rw[z0y,h1] at hnm;have HN:=Lib.hid hnm;have HA:=Lib.hid (q65 [] _ K _ (hva.below hK hal) (fun b q=>Nat.lt_of_lt_of_le (hK b q) hal.size) (Nat.le_trans hb (by decide)));rw[show Mk.Q9 Mk.isName [] []=0 from rfl] at HA;clear hva hva2 hal h1 hnm;go_enter Tryz.func128,Tryz.ntmps128;go_wp2_with fail;refine(HN.out _).mono ?_;rintro e w2 ⟨rfl,rfl⟩;go_wp2_with fail;refine HA.out.mono ?_;rintro e w3 ⟨rfl,hb3⟩;have B3:=Lib.hid (AL.out.trans (hb3.mono AL.out.size));clear hb3 HA;go_wp2_with fail;go_ret;exact⟨rfl,B3.out⟩
theorem tk_Check (l:List Mk.Tok) (v:Value) (K:Nat→Prop) (w:World) (hv:z9o w K v l) (hK:∀ b,K b→b < w.heap.size) (hl:l.length≤3000) (hok:∀ t ∈ l,Mk.Bld.z3m t∧Mk.Fo.atB t.ats≤1048576) (ha:Mk.Adj false l) :
  Calls Tryz.prog 78 #[v] w fun e w'=>e=.returned (.int .i64 0)∧Below w.heap.size w w':=by
 obtain⟨ao,cap,hv1,hlm,hat⟩:=hv.at_
 subst hv1;have HAT:=Lib.hid hat
 have HK:=Lib.hid hK;have HOK:=Lib.hid hok;have HAD:=Lib.hid ha;have h30:¬ 3000 < (l.length:Int):=by omega
 clear hv hat hK hok ha;go_enter Tryz.func78,Tryz.ntmps78;go_wp2_with fail
 go_loopw [11] (fun i wr=>∃ k:Nat,k≤l.length∧i=.int .i64 k∧Hid (Below w.heap.size w wr)) (fun i _=>l.length - (intOf i).toNat)
 case atStart=>exact⟨0,Nat.zero_le _,rfl,Below.refl _ _⟩
 case round =>
  obtain⟨k,hk,rfl,HBL⟩:=hrel
  by_cases hlt:k < l.length
  ·obtain⟨t,hkt⟩:∃ t,l[k]? = some t:=⟨_,List.getElem?_eq_getElem hlt⟩
   obtain⟨g,o,aot,capt,hao,hKg,hva,y0,y1,y2,y3⟩:=HAT.out k t hkt;subst hao;have hgl:=HK.out g hKg;rw[← HBL.out.cell (p:=⟨g,_,none⟩) hgl] at y0 y1 y2 y3;obtain⟨ok1,ok2⟩:=HOK.out t (List.mem_of_getElem? hkt);have hal:=(Below.refl wr.heap.size wr).alloc (Nat.le_refl _) (.cells #[.int .i64 t.kind,.string (st t.name),.slice aot t.ats.length capt,.string (st t.text)] 181);have hBL1:=HBL.out.trans (hal.mono HBL.out.size);have HONE:=Lib.hid (tk_one t ok1 (.slice aot t.ats.length capt) K _ (hva.frame (fun b q=>⟨q,hBL1.block b (HK.out b q)⟩)) (fun b q=>Nat.lt_of_lt_of_le (HK.out b q) hBL1.size) ok2);have HBL1:=Lib.hid hBL1;have PB:=Lib.hid (Blk.new wr 181 #[.int .i64 t.kind,.string (st t.name),.slice aot t.ats.length capt,.string (st t.text)]);have HPREV:Hid (k=0∨t.kind ≠ 1∨∃ kj,(kj == 1)=false∧0 < k∧w.cell? ⟨g,o + (k - 1) * 4,none⟩=some (.int .i64 kj)):=by
    cases k with
    | zero=>exact .inl rfl
    | succ j =>
     by_cases hk1:t.kind=1
     ·obtain⟨u,hju⟩:∃ u,l[j]? = some u:=⟨_,List.getElem?_eq_getElem (by omega)⟩
      have hne:=Mk.adj_at l false j u t HAD.out hju hkt hk1;obtain⟨g',o',aou,capu,hao',_,_,x0,_,_,_⟩:=HAT.out j u hju;injection hao' with hao';injection hao' with e1 e2;subst e1;subst e2;refine .inr (.inr ⟨u.kind,beq_eq_false_iff_ne.2 hne,Nat.succ_pos _,?_⟩);rw[Nat.add_sub_cancel];exact x0
     ·exact .inr (.inl hk1)
   clear hBL1 hal hva HBL ok1 ok2 hkt;unfold tokV at HONE;go_upto_region 6 with fail;generalize (wr.alloc (.cells #[.int .i64 t.kind,.string (st t.name),.slice aot t.ats.length capt,.string (st t.text)] 181))=w1 at HONE HBL1 PB ⊢;have z0:w1.cell? ⟨wr.heap.size,0,none⟩=some (.int .i64 t.kind):=Blk.cell PB.out 0;have z1:w1.cell? ⟨wr.heap.size,1,none⟩=some (.string (st t.name)):=Blk.cell PB.out 1;have z2:w1.cell? ⟨wr.heap.size,2,none⟩=some (.slice aot t.ats.length capt):=Blk.cell PB.out 2;have z3:w1.cell? ⟨wr.heap.size,3,none⟩=some (.string (st t.text)):=Blk.cell PB.out 3;clear y0 y1 y2 y3;go_wp2_with fail;refine HONE.out.mono ?_;rintro e w2 ⟨rfl,hb2⟩;have B2:=Lib.hid (HBL1.out.trans (hb2.mono HBL1.out.size));rw[← hb2.cell (p:=⟨wr.heap.size,_,none⟩) (Blk.lt PB.out)] at z0;clear z1 z2 z3 hb2 HONE HBL1 PB;generalize t.kind=kd at z0 HPREV
   rcases HPREV.out with h0 | h1 | ⟨kj,h1,h2,h3⟩
   ·subst h0
    clear HPREV;go_wp2_with fail;go_roundw
    case rel=>exact⟨1,by omega,by go_num,B2.out⟩
    case measure=>simp[intOf];omega
   ·have hkb:(kd == 1)=false:=beq_eq_false_iff_ne.2 h1
    by_cases h0:0 < k
    ·have h0i:(0:Int) < k:=by omega
     clear HPREV h1;go_wp2_with fail;go_roundw
     case rel=>exact⟨k + 1,by omega,by go_num,B2.out⟩
     case measure=>simp[intOf];omega
    ·have h0i:¬ (0:Int) < k:=by omega
     clear HPREV h1;go_wp2_with fail;go_roundw
     case rel=>exact⟨k + 1,by omega,by go_num,B2.out⟩
     case measure=>simp[intOf];omega
   ·rw[← B2.out.cell (p:=⟨g,_,none⟩) hgl] at h3
    obtain⟨j,rfl⟩:∃ j,k=j + 1:=⟨k - 1,by omega⟩;rw[Nat.add_sub_cancel] at h3;have h0i:(0:Int) < ((j + 1:Nat):Int):=by omega
    have hj1:(((j + 1:Nat):Int) - 1)=(j:Int):=by omega
    have hj2:(j:Int) < l.length:=by omega
    clear HPREV;go_wp2_with fail
    all_goals
     go_roundw
     case rel=>exact⟨j + 1 + 1,by omega,by go_num,B2.out⟩
     case measure=>simp[intOf];omega
  ·have:k=l.length:=by omega
   subst this;go_wp2_with fail;go_ret;exact⟨rfl,HBL.out⟩
theorem tr_Build (l:List Mk.Tok) (v:Value) (K:Nat→Prop) (w:World) (hv:z9o w K v l) (hK:∀ b,K b→b < w.heap.size) (hl:l.length≤3000) (hok:∀ t ∈ l,Mk.Bld.z3m t∧Mk.Fo.atB t.ats≤1048576) (ha:Mk.Adj false l) (hb:Mk.Bld.tokB l≤549755813000) :
  Calls Tryz.prog 33 #[v] w fun e w'=>∃ v',e=.returned (.tuple #[v',.int .i64 0])∧FoV w' (fun g=>w.heap.size≤g∧g < w'.heap.size) v' (Mk.build l)∧Below w.heap.size w w':=by
 have HC:=Lib.hid (tk_Check l v K w hv hK hl hok ha);have HV:=Lib.hid hv;have HK:=Lib.hid hK;obtain⟨ao,cap,hv1,hlm,hat⟩:=hv.at_
 subst hv1;clear hv hK hat hok ha;go_enter Tryz.func33,Tryz.ntmps33;go_wp2_with fail;refine HC.out.mono ?_;rintro e w1 ⟨rfl,hb1⟩;have B1:=Lib.hid hb1;have HO:=Lib.hid (tr_Of l _ K w1 (HV.out.frame (fun b q=>⟨q,hb1.block b (HK.out b q)⟩)) (fun b q=>Nat.lt_of_lt_of_le (HK.out b q) hb1.size) hb);clear hb1 HC;go_wp2_with fail;refine HO.out.mono ?_;rintro e w2 ⟨v2,rfl,hv2,hb2⟩;have HV2:Hid (FoV w2 (fun g=>w.heap.size≤g∧g < w2.heap.size) v2 (Mk.build l)):=hv2.frame (fun b q=>⟨⟨Nat.le_trans B1.out.size q.1,q.2⟩,rfl⟩);have B2:=Lib.hid (B1.out.trans (hb2.mono B1.out.size));clear hv2 hb2 HO;go_wp2_with fail;go_ret2;exact⟨v2,rfl,HV2.out,B2.out⟩
theorem tk_Read (s:List UInt8) (w:World) (hg:Gl w) (hs:s.length≤3000) :
  Calls Tryz.prog 32 #[.string (st s)] w fun e w'=>∃ v,e=.returned (.tuple #[v,.int .i64 0])∧z9o w' (fun b=>w.heap.size≤b∧b < w'.heap.size) v (Mk.toks s)∧Below w.heap.size w w':=by
 have HA:=Lib.hid (j9m (st s) w hg (by rw[y9];omega));have h2:¬ 3000 < (st s).size:=by rw[y9];omega
 go_enter Tryz.func32,Tryz.ntmps32;go_wp2_with fail;refine HA.out.mono ?_;rintro e w1 ⟨v1,rfl,hv1,hb1⟩;have HV1:=Lib.hid hv1;have B1:=Lib.hid hb1;clear hv1 hb1 HA;go_wp2_with fail;go_ret2;exact⟨v1,rfl,HV1.out,B1.out⟩
end Go.Proofs.YtjonkbdldebkiaaGreatDoor
namespace Mk
open Fo
def z1f (n:Bs):Bool:=n == [] || n == [98] || n == [105] || n == [101,109] || n == [115,116,114,111,110,103] || n == [112] || n == [98,114] || n == [104,114] || n == [117,108] || n == [111,108] || n == [108,105] || n == [98,108,111,99,107,113,117,111,116,101] || n == [99,111,100,101]
def richB (n:Bs):Bool:=n == [97] || n == [105,109,103]
def q66 (n:Bs):Bool:=n == [116,105,116,108,101] || n == [97,108,116]
def okAt (a:At):Bool:=q66 a.n || (z6b a.n && V3 a.v)
def z6t:Fo→Bool
 | .nil=>true
 | .node n a _ k r=>(if z1f n then decide (a=[]) else richB n && a.all okAt) && z6t k && z6t r
theorem good_at (n:Bs) (a:At) (h:mayB n a.n=true) (h2:(z6b a.n && !V3 a.v)=false):okAt a=true:=by
 unfold okAt
 by_cases hl:z6b a.n=true
 ·rw[hl] at h2
  have:V3 a.v=true:=by simpa using h2
  rw[hl,this];simp
 ·have hp:q66 a.n=true:=by
   unfold mayB at h;unfold z6b at hl;unfold q66
   split at h
   ·simp at h hl ⊢
    rcases h with e | e
    ·exact absurd e hl.1
    ·exact .inl e
   ·split at h
    ·simp at h hl ⊢
     rcases h with e | e
     ·exact absurd e hl.2
     ·exact .inr e
    ·cases h
  rw[hp];rfl
theorem may_bare (n:Bs) (h:z1f n=true) (m:Bs):mayB n m=false:=by
 unfold mayB;rw[if_neg (by rintro rfl;exact absurd h (by decide)),if_neg (by rintro rfl;exact absurd h (by decide))]
theorem ok_names (n:Bs) (h:X3 n=true):z1f n=true∨richB n=true:=by
 unfold X3 z8o at h;simp at h
 rcases h with h | h | h | h | h | h | h | h | h | h | h | h | h | h <;> subst h <;> decide
theorem q09:∀ (f:Fo) (names:List Bs) (p:Bool),z2t f=true→Q8 f names p=0→z6t f=true
 | .nil,_,_,_,_=>rfl
 | .node n a t k r,names,p,h,hc=>by
  obtain⟨c1,_,c3,c4⟩:=(V5 ..).1 hc;unfold z2t at h;rw[Bool.and_eq_true,Bool.not_eq_true',Bool.or_eq_false_iff] at h;obtain⟨⟨h1,h2⟩,h3⟩:=h;have h2:z2t k=true:=by simpa using h2
  unfold z6t;rw[q09 k _ _ h2 c3,q09 r _ _ h3 c4,Bool.and_true,Bool.and_true]
  by_cases hn:n=[]
  ·subst hn
   obtain⟨_,q,_⟩:=(z1q ..).1 c1;subst q;decide
  ·rw[decide_eq_true hn,Bool.true_and,Bool.or_eq_false_iff,Bool.or_eq_false_iff] at h1
   obtain⟨⟨g1,g2⟩,_⟩:=h1;have g1:X3 n=true:=by simpa using g1
   unfold z4v at g2;rw[List.any_eq_false] at g2;have g3:∀ x ∈ a,mayB n x.n=true∧(z6b x.n && !V3 x.v)=false:=fun x q=>by
    have:=g2 x q;rw[Bool.not_eq_true,Bool.or_eq_false_iff] at this;exact⟨by simpa using this.1,this.2⟩
   by_cases hb:z1f n=true
   ·rw[if_pos hb,decide_eq_true_eq]
    cases a with
    | nil=>rfl
    | cons x y=>have:=(g3 x (by simp)).1;rw[may_bare n hb] at this;cases this
   ·rw[if_neg hb,Bool.and_eq_true]
    refine⟨(ok_names n g1).resolve_left hb,?_⟩;rw[List.all_eq_true];exact fun x q=>good_at n x (g3 x q).1 (g3 x q).2
theorem q9q (base:Bs) (f:Fo) (hf:Q8 f [] false=0):z6t (clean base f)=true:=q09 _ [] false (q42 base f (z2f f [] false hf)) (z8l base f hf)
theorem j9b (base s:Bs):toks (html base s)=flat (clean base (build (toks s)))∧build (toks (html base s))=clean base (build (toks s)):=by
 obtain⟨h1,h2⟩:=Bld.q1f (toks s) (q6o s);have h3:=z8l base _ h1;have e:toks (html base s)=flat (clean base (build (toks s))):=q8f _ h3;refine⟨e,?_⟩;rw[e];exact Bld.q3x _ h3 (q9r base _ 8 h2)
end Mk
