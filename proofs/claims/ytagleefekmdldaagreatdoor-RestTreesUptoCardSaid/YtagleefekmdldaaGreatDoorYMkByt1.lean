/- Contracts of the program's Written and Bytes: attributes and tokens as they are printed. Condition: at most 1099511627776 letters; Told answers at every text and value. -/
import Derived.Test.YtagleefekmdldaaGreatDoorYMkTree13
import Derived.Test.YtagleefekmdldaaGreatDoorYMkRep3
import Derived.Test.YtagleefekmdldaaGreatDoorYMkTok5
set_option linter.unusedVariables false
set_option linter.unusedSimpArgs false
set_option maxHeartbeats 8000000
set_option maxRecDepth 100000
namespace Mk
theorem q74 (l:List At) (k:Nat) (h:k < l.length):written (l.take (k + 1))=written (l.take k)++([32]++l[k].n++[61,34]++put l[k].v++[34]):=by
 rw[written,List.take_succ_eq_append_getElem h,List.flatMap_append];simp[written]
theorem j3f (l:List At) (k:Nat):(written (l.take k)).length≤(written l).length:=by
 have h:written l=written (l.take k)++written (l.drop k):=by
  rw[written,written,written,← List.flatMap_append,List.take_append_drop]
 rw[h,List.length_append];omega
end Mk
namespace Go.Proofs.YtagleefekmdldaaGreatDoor
open Go.Proofs.Tryz Go.RowKit
theorem z6y (x y:List UInt8):st x++st y=st (x++y):=z19 (st x) (st y)
theorem q3m (l:List Mk.At) (v:Value) (K:Nat→Prop) (w:World) (hv:AtsV w K v l) (hK:∀ b,K b→b < w.heap.size) (hT:∀ a ∈ l,j0c a.v) (hl:(Mk.written l).length≤1099511627776) :
  Calls prog 70 #[v] w fun e w'=>e=.returned (.string (st (Mk.written l)))∧Below w.heap.size w w':=by
 have hst:∀ l:List UInt8,(st l).toList=l:=fun l=>Lib.toList_data _
 obtain⟨b,o,cap,hKb,hv1,hcl⟩:=hv.at_
 have HC:=Ld hcl;have HT:=Ld hT;have hlm:l.length≤9223372036854775807:=by obtain⟨_,_,_,_,_,q⟩:=hv;unfold maxLen at q;omega
 clear hcl hT hv
 rcases hv1 with hv1 | ⟨ao,hv1,hl0⟩
 ·subst hv1
  go_enter func70,ntmps70;go_wp2_with fail
  go_loopw [3,8] (fun s i wr=>∃ k:Nat,k≤l.length∧s=.string (st (Mk.written (l.take k)))∧i=.int .i64 k∧Hid (Below w.heap.size w wr)) (fun _ i _=>l.length - (intOf i).toNat)
  case atStart=>exact⟨0,Nat.zero_le _,rfl,rfl,Below.refl _ _⟩
  case round =>
   obtain⟨k,hk,rfl,rfl,BL⟩:=hrel
   by_cases hlt:k < l.length
   ·have hb:b < w.heap.size:=hK b (hKb (by intro e;subst e;simp at hlt))
    obtain⟨c0,c1⟩:=HC.out k hlt;rw[← BL.out.cell (p:=⟨b,_,none⟩) hb] at c0 c1;have HS:=Ld (Mk.q74 l k hlt);have hle:=Mk.j3f l (k + 1);have hTk:=HT.out _ (List.getElem_mem hlt);have HLE:Hid ((Mk.written (l.take (k + 1))).length≤(Mk.written l).length):=hle;rw[HS.out] at hle;simp only [List.length_append,List.length_cons,List.length_nil] at hle;generalize l[k]=a at c0 c1 HS hTk hle;generalize Mk.written (l.take k)=pre at HS hle ⊢;have PB:=Ld (Blk.new wr 73 #[.string (st a.n),.string (st a.v)]);have hal:=(Below.refl wr.heap.size wr).alloc (Lr) (.cells #[.string (st a.n),.string (st a.v)] 73);have BL1:=Ld (BL.out.trans (hal.mono BL.out.size));have HTK:=Ld hTk;go_upto_region 5 with fail;clear hTk hal c0 c1 BL;generalize (wr.alloc (.cells #[.string (st a.n),.string (st a.v)] 73))=w1 at PB BL1 ⊢;generalize wr.heap.size=N at PB ⊢;have n0:w1.cell? ⟨N,0,none⟩=some (.string (st a.n)):=Blk.cell PB.out 0;have n1:w1.cell? ⟨N,1,none⟩=some (.string (st a.v)):=Blk.cell PB.out 1;have hNl:N < w1.heap.size:=Blk.lt PB.out;have HFR:Hid (∀ W,Below w1.heap.size w1 W→W.cell? ⟨N,0,none⟩=some (.string (st a.n))∧W.cell? ⟨N,1,none⟩=some (.string (st a.v))):=fun W hW=>⟨(hW.cell (p:=⟨N,0,none⟩) hNl).trans n0,(hW.cell (p:=⟨N,1,none⟩) hNl).trans n1⟩
    have q1:¬ 9223372036854775807 < 1 + (st a.n).size:=by rw[y9];omega
    have q2:¬ 9223372036854775807 < 1 + (st a.n).size + 2:=by rw[y9];omega
    have q3:¬ 9223372036854775807 < 1 + (st a.n).size + 2 + (st (Mk.put a.v)).size:=by rw[y9,y9];omega
    have q4:¬ 9223372036854775807 < 1 + (st a.n).size + 2 + (st (Mk.put a.v)).size + 1:=by rw[y9,y9];omega
    have q5:¬ 9223372036854775807 < (st pre).size + (1 + (st a.n).size + 2 + (st (Mk.put a.v)).size + 1):=by rw[y9,y9,y9];omega
    go_region_held3 (fun w'=>w'.cell? ⟨N,0,none⟩=some (.string (st a.n))∧w'.cell? ⟨N,1,none⟩=some (.string (st a.v))) (first
     | exact HFR.out _ ((Below.refl _ _).drew)
     | exact HFR.out _ hB2) (first | (go_at_call 69;refine(HTK.out _).mono ?_;rintro e w2 ⟨rfl,hb2⟩;have hB2:Below w1.heap.size w1 w2:=((Below.refl _ _).drew).trans hb2))
    all_goals
     have HV:Hid (st pre++((⟨#[32]⟩:ByteArray)++st a.n++⟨#[61,34]⟩++st (Mk.put a.v)++⟨#[34]⟩)=st (Mk.written (l.take (k + 1)))):=by
      show _=_;rw[HS.out,show (⟨#[32]⟩:ByteArray)=st [32] from rfl,show (⟨#[61,34]⟩:ByteArray)=st [61,34] from rfl,show (⟨#[34]⟩:ByteArray)=st [34] from rfl,z6y,z6y,z6y,z6y,z6y]
     have HB2:=Ld (BL1.out.trans (hB2.mono BL1.out.size));clear hb2 hB2 HFR q1 q2 q3 q4 q5 n0 n1 HTK hle;go_wp2_with fail;go_roundw
     case rel=>exact⟨k + 1,by omega,by rw[HV.out],by go_num,HB2.out⟩
     case measure=>simp[intOf];omega
   ·have hke:k=l.length:=by omega
    subst hke;rw[List.take_length];go_wp2_with fail;go_ret;exact⟨rfl,BL.out⟩
 ·subst hl0
  subst hv1;clear HC hK;go_enter func70,ntmps70;go_wp2_with fail
  go_loopw [3,8] (fun s i wr=>s=.string (st [])∧i=.int .i64 0∧wr=w) (fun _ _ _=>0)
  case atStart=>exact⟨rfl,rfl,rfl⟩
  case round =>
   obtain⟨rfl,rfl,rfl⟩:=hrel;go_wp2_with fail;go_ret;exact⟨rfl,Below.refl _ _⟩
theorem q28 (B b:Nat) (bs:List Value) (w:World) (h:Lib.IsBuilder 110 5 B b bs w) :
  Calls prog 103 #[.pointer (some ⟨b,0,none⟩)] w fun e w'=>e=.returned (.tuple #[])∧Lib.BuilderAt 110 5 B b (.pointer (some ⟨b,0,none⟩)) bs w'∧Below B w w'∧(∀ x,x ≠ b→w'.heap[x]? = w.heap[x]?)∧w'.cell? ⟨b,1,none⟩=w.cell? ⟨b,1,none⟩:=by
 rcases h with h | h
 ·refine(z5q b w h.cell0 h.shape h.frozen0).mono ?_
  rintro e w' ⟨rfl,rfl⟩;exact⟨rfl,h.used _,(Below.refl B w).setCell (p:=⟨b,0,none⟩) h.1 _,fun x hx=>Below.heap_setCell w ⟨b,0,none⟩ _ x hx,World.cell?_setCell_other _ ⟨b,0,none⟩ ⟨b,1,none⟩ _ (by simp)⟩
 ·refine(z6q b w h.cell0).mono ?_
  rintro e w' ⟨rfl,rfl⟩;exact⟨rfl,h,Below.refl B _,fun _ _=>rfl,rfl⟩
theorem z9q (B b:Nat) (bs:List Value) (s:ByteArray) (w:World) (h:Lib.IsBuilder 110 5 B b bs w) (hlen:bs.length + s.size≤140737488355328) (hBw:B≤w.heap.size) (N:Nat) (hN:N < w.heap.size) (hNb:N ≠ b) (hrow:∀ v,w.cell? ⟨b,1,none⟩=some v→v.ownBlock ≠ some N) :
  Calls prog 68 #[.pointer (some ⟨b,0,none⟩),.string s] w fun e w'=>e=.returned (.tuple #[.int .i64 s.size,.nilIface])∧Lib.BuilderAt 110 5 B b (.pointer (some ⟨b,0,none⟩)) (bs++Lib.strCells s) w'∧Below B w w'∧w'.heap[N]? = w.heap[N]?:=by
 obtain⟨i0,hi,hz0,hz1,hz2⟩:=info_parts Tryz.infoByte;have HROW:=Ld hrow;clear hrow;go_enter func68,ntmps68;go_wp2_with (go_at_call 103;refine(q28 B b bs _ h).mono ?_);rintro e w1 ⟨rfl,h1,hb1,hx1,hc1⟩;obtain⟨hB,v,hbk,hown,hne⟩:=h1;have c0:w1.cell? ⟨b,0,none⟩=some (.pointer (some ⟨b,0,none⟩)):=by rw[Lib.cell_of_heap hbk];rfl
 have c1:w1.cell? ⟨b,1,none⟩=some v:=by rw[Lib.cell_of_heap hbk];rfl
 have hvN:v.ownBlock ≠ some N:=HROW.out v (by rw[← hc1];exact c1);have HX1:=Ld hx1;clear hx1 hc1;go_wp2_with (at_builtin;refine Lib.wpList_append_own_string _ rfl _ _ 85 9 rfl B 5 i0 underlying85 underlying9 hi hz0 hz1 hz2 _ _ _ rfl hown s rfl ?c3 ?c4 ?c5 ?_)
 case c3=>unfold maxLen;omega
 case c4=>omega
 case c5=>have:=hb1.size;omega
 intro v' w2 hown' hgrow _;have hlt:b < w1.heap.size:=by
  rcases Nat.lt_or_ge b w1.heap.size with h' | h'
  ·exact h'
  ·simp[Array.getElem?_eq_none h'] at hbk
 have hb2:w2.heap[b]? = some (.cells #[.pointer (some ⟨b,0,none⟩),v] 110 (0,0)):=by
  rw[hgrow.block b hlt (fun e=>hne e.symm)];exact hbk
 have hN1:N < w1.heap.size:=by
  have h2:w1.heap[N]? = w.heap[N]?:=HX1.out N hNb;rw[Array.getElem?_eq_getElem hN] at h2
  rcases Nat.lt_or_ge N w1.heap.size with h' | h'
  ·exact h'
  ·simp[Array.getElem?_eq_none h'] at h2
 have HNN:Hid (∀ u,(w2.setCell ⟨b,1,none⟩ u).heap[N]? = w.heap[N]?):=fun u=>(Below.heap_setCell w2 ⟨b,1,none⟩ _ N hNb).trans ((hgrow.block N hN1 (fun e=>hvN e.symm)).trans (HX1.out N hNb))
 have d0:w2.cell? ⟨b,0,none⟩=some (.pointer (some ⟨b,0,none⟩)):=by rw[Lib.cell_of_heap hb2];rfl
 have d1:w2.cell? ⟨b,1,none⟩=some v:=by rw[Lib.cell_of_heap hb2];rfl
 have f1:w2.frozen? ⟨b,1,none⟩=false:=Lib.frozen_of_heap hb2 1;obtain⟨ao,n',cap,rfl⟩:∃ ao n' cap,v'=.slice ao n' cap:=by
  rcases hown'.2 with ⟨hv,_⟩ | ⟨g,cap,cur,hv,_⟩
  ·exact⟨_,_,_,hv⟩
  ·exact⟨_,_,_,hv⟩
 go_wp2;go_ret2;refine⟨rfl,?_,?_,HNN.out _⟩
 ·exact Lib.BuilderAt.put (T:=110) (e:=5) hB hb2 (bs':=bs++Lib.strCells s) (by simpa [Lib.strCells_length] using hown') (by decide)
 ·exact(hb1.grown hgrow (by have:=hb1.size;omega) (fun k hk=>(hown.lt k hk).1)).setCell (p:=⟨b,1,none⟩) hB _
theorem q7h {B b:Nat} {bs:List Value} {w:World} (h:Lib.IsBuilder 110 5 B b bs w):b < w.heap.size∧∀ v,w.cell? ⟨b,1,none⟩=some v→∀ g,v.ownBlock=some g→g < w.heap.size:=by
 have key:∀ p,Lib.BuilderAt 110 5 B b p bs w→b < w.heap.size∧∀ v,w.cell? ⟨b,1,none⟩=some v→∀ g,v.ownBlock=some g→g < w.heap.size:=by
  rintro p ⟨hB,v,hbk,hown,hne⟩;refine⟨?_,fun u hu g hg=>?_⟩
  ·rcases Nat.lt_or_ge b w.heap.size with h' | h'
   ·exact h'
   ·simp[Array.getElem?_eq_none h'] at hbk
  ·have:w.cell? ⟨b,1,none⟩=some v:=by rw[Lib.cell_of_heap hbk];rfl
   rw[this] at hu;injection hu with hu;subst hu;exact(hown.lt g hg).2
 exact h.elim (key _) (key _)
def z7l (t:Mk.Tok):Prop:=(t.kind=1→j0c t.text)∧∀ a ∈ t.ats,j0c a.v
theorem j0q (l:List Mk.Tok) (k:Nat) (h:k < l.length):Mk.bytes (l.take (k + 1))=Mk.bytes (l.take k)++Mk.X3 l[k]:=by
 rw[Mk.bytes,List.take_succ_eq_append_getElem h,List.flatMap_append];simp[Mk.bytes]
theorem bytes_le (l:List Mk.Tok) (k:Nat):(Mk.bytes (l.take k)).length≤(Mk.bytes l).length:=by
 have h:Mk.bytes l=Mk.bytes (l.take k)++Mk.bytes (l.drop k):=by
  rw[Mk.bytes,Mk.bytes,Mk.bytes,← List.flatMap_append,List.take_append_drop]
 rw[h,List.length_append];omega
theorem q9v (l:List Mk.Tok) (v:Value) (K:Nat→Prop) (w:World) (hv:z1b w K v l) (hK:∀ b,K b→b < w.heap.size) (hT:∀ t ∈ l,z7l t) (hl:(Mk.bytes l).length≤1099511627776) :
  Calls prog 47 #[v] w fun e w'=>e=.returned (.string (st (Mk.bytes l)))∧Below w.heap.size w w':=by
 have hst:∀ l:List UInt8,(st l).toList=l:=fun l=>Lib.toList_data _
 obtain⟨ao,cap,hv1,hlm,hat⟩:=hv.at_
 subst hv1;have hlm:l.length≤9223372036854775807:=by unfold maxLen at hlm;omega
 have HAT:=Ld hat
 have HT:=Ld hT;have HK:=Ld hK;have hbu:Lib.IsBuilder 110 5 w.heap.size w.heap.size (Lib.byteCells []) (w.alloc (.cells #[.pointer none,.slice none 0 0] 110)) :=
  .inl ⟨Lr,.slice none 0 0,heap_alloc_new w _,World.ownsRow_nil _ _ _ _,by simp[Value.ownBlock]⟩
 have hl0:=(Below.refl _ w).alloc (Lr) (.cells #[.pointer none,.slice none 0 0] 110);clear hat hT hK hv;go_enter func47,ntmps47;go_wp2_with fail;change Code.wp _ _ _ _ (w.alloc (.cells #[.pointer none,.slice none 0 0] 110));generalize w.alloc (.cells #[.pointer none,.slice none 0 0] 110)=w0 at hbu hl0 ⊢
 go_loopw [8] (fun i wr=>∃ k:Nat,k≤l.length∧i=.int .i64 k∧Hid (Lib.IsBuilder 110 5 w.heap.size w.heap.size (Lib.byteCells (Mk.bytes (l.take k))) wr)∧Hid (Below w.heap.size w wr)) (fun i _=>l.length - (intOf i).toNat)
 case atStart=>exact⟨0,Nat.zero_le _,rfl,hbu,hl0⟩
 case round =>
  clear hbu hl0;obtain⟨k,hk,rfl,BU,BL⟩:=hrel;have hsz:=BL.out.size
  by_cases hlt:k < l.length
  ·obtain⟨t,hkt⟩:∃ t,l[k]? = some t:=⟨_,List.getElem?_eq_getElem hlt⟩
   obtain⟨g,o,aot,capt,hao,hKg,hva,y0,y1,y2,y3⟩:=HAT.out k t hkt;subst hao;have hgl:=HK.out g hKg;rw[← BL.out.cell (p:=⟨g,_,none⟩) hgl] at y0 y1 y2 y3;have hge:l[k]=t:=by rw[List.getElem?_eq_getElem hlt] at hkt;injection hkt
   have hbs:=j0q l k hlt;have hle:=bytes_le l (k + 1);rw[hge] at hbs;rw[hbs,List.length_append] at hle;have htt:=HT.out t (by rw[← hge];exact List.getElem_mem hlt);have HBS:=Ld hbs;have hal:=(Below.refl wr.heap.size wr).alloc (Lr) (.cells #[.int .i64 t.kind,.string (st t.name),.slice aot t.ats.length capt,.string (st t.text)] 52);have BL1:=Ld (BL.out.trans (hal.mono hsz));have BU1:=Ld (z3l BU.out (fun k hk=>hal.block k hk));obtain⟨hbw,hbrow⟩:=q7h BU.out;have HROW:Hid (∀ v,(wr.alloc (.cells #[.int .i64 t.kind,.string (st t.name),.slice aot t.ats.length capt,.string (st t.text)] 52)).cell? ⟨w.heap.size,1,none⟩=some v→∀ g,v.ownBlock=some g→g < wr.heap.size):=fun v q=>hbrow v ((hal.cell (p:=⟨w.heap.size,1,none⟩) hbw).symm.trans q)
   have HVA:Hid (AtsV _ K (.slice aot t.ats.length capt) t.ats):=hva.frame (fun b q=>⟨q,BL1.out.block b (HK.out b q)⟩);have PB:=Ld (Blk.new wr 52 #[.int .i64 t.kind,.string (st t.name),.slice aot t.ats.length capt,.string (st t.text)]);have HTT:=Ld htt;clear hal hva htt hbs hge hkt BL BU hbrow;go_upto_region 5 with fail;clear y0 y1 y2 y3;generalize (wr.alloc (.cells #[.int .i64 t.kind,.string (st t.name),.slice aot t.ats.length capt,.string (st t.text)] 52))=w1 at PB BL1 BU1 HVA HROW ⊢;generalize wr.heap.size=N at PB HROW hbw ⊢;have n0:w1.cell? ⟨N,0,none⟩=some (.int .i64 t.kind):=Blk.cell PB.out 0;have n1:w1.cell? ⟨N,1,none⟩=some (.string (st t.name)):=Blk.cell PB.out 1;have n2:w1.cell? ⟨N,2,none⟩=some (.slice aot t.ats.length capt):=Blk.cell PB.out 2;have n3:w1.cell? ⟨N,3,none⟩=some (.string (st t.text)):=Blk.cell PB.out 3;have hNl:N < w1.heap.size:=Blk.lt PB.out;have hsz1:=BL1.out.size;have hbl:(Lib.byteCells (Mk.bytes (l.take k))).length≤1099511627776 - (Mk.X3 t).length:=by rw[Lib.byteCells_length];omega
   generalize Mk.bytes (l.take k)=pre at HBS hle BU1 hbl;have hbw1:w.heap.size < w1.heap.size:=by omega
   by_cases h1:t.kind=1
   ·have htb:Mk.X3 t=Mk.put t.text:=by unfold Mk.X3;rw[if_pos h1]
    rw[htb] at HBS hle hbl;have HTL:=Ld (HTT.out.1 h1);rw[h1] at n0 PB ⊢;clear h1 htb;go_wp2_with fail;refine(HTL.out _).mono ?_;rintro e w2 ⟨rfl,hb2⟩;have BU2:=Ld (z3l BU1.out (fun k hk=>hb2.block k hk));have BL2:=Ld (BL1.out.trans (hb2.mono hsz1));have hsz2:=BL2.out.size;clear hb2 BU1 BL1 n0 n1 n2 n3 PB HVA HROW;go_wp2_with fail;refine(z0w w.heap.size w.heap.size _ (st (Mk.put t.text)) _ BU2.out (by rw[y9];omega) hsz2).mono ?_;rintro e w3 ⟨rfl,hb3,hl3⟩;have BU3:Hid (Lib.IsBuilder 110 5 w.heap.size w.heap.size (Lib.byteCells (Mk.bytes (l.take (k + 1)))) w3):=by
     show Lib.IsBuilder _ _ _ _ _ _;rw[HBS.out,Lib.byteCells_append];exact .inr hb3
    have BL3:=Ld (BL2.out.trans hl3);clear hb3 hl3 BU2 BL2;go_wp2_with fail;go_roundw
    case rel=>exact⟨k + 1,by omega,by go_num,BU3.out,BL3.out⟩
    case measure=>simp[intOf];omega
   ·by_cases h2:t.kind=2
    ·have htb:Mk.X3 t=[60]++t.name++Mk.written t.ats++[62]:=by unfold Mk.X3;rw[if_neg h1,if_pos h2]
     rw[htb] at HBS hle hbl;simp only [List.length_append,List.length_cons,List.length_nil] at hle hbl;have HWR:Hid (∀ W,Below w1.heap.size w1 W→Calls prog 70 #[.slice aot t.ats.length capt] W fun e w'=>e=.returned (.string (st (Mk.written t.ats)))∧Below W.heap.size W w'):=fun W hW=>q3m t.ats _ K W (HVA.out.frame (fun b q=>⟨q,hW.block b (by have:=HK.out b q;omega)⟩)) (fun b q=>by have:=HK.out b q;have:=hW.size;omega) HTT.out.2 (by omega)
     rw[h2] at n0 PB ⊢;clear h1 h2 htb;go_upto_region 9 with fail;have HFR:Hid (∀ W:World,W.heap[N]? = w1.heap[N]?→W.cell? ⟨N,1,none⟩=some (.string (st t.name))∧W.cell? ⟨N,2,none⟩=some (.slice aot t.ats.length capt)):=fun W hW=>⟨(cell_of_block hW _).trans n1,(cell_of_block hW _).trans n2⟩
     have q1:¬ 9223372036854775807 < 1 + (st t.name).size:=by rw[y9];omega
     have q2:¬ 9223372036854775807 < 1 + (st t.name).size + (st (Mk.written t.ats)).size:=by rw[y9,y9];omega
     have q3:¬ 9223372036854775807 < 1 + (st t.name).size + (st (Mk.written t.ats)).size + 1:=by rw[y9,y9];omega
     have HWS:Hid (∀ W,Below w1.heap.size w1 W→Calls prog 68 #[.pointer (some ⟨w.heap.size,0,none⟩),.string (⟨#[60]⟩++st t.name++st (Mk.written t.ats)++⟨#[62]⟩)] W fun e w'=>∃ v,e=.returned v∧Lib.IsBuilder 110 5 w.heap.size w.heap.size (Lib.byteCells (Mk.bytes (l.take (k + 1)))) w'∧Below w.heap.size W w'∧w'.heap[N]? = W.heap[N]?):=fun W hW=>by
      have hb:=hW.size;rw[show (⟨#[60]⟩:ByteArray)=st [60] from rfl,show (⟨#[62]⟩:ByteArray)=st [62] from rfl,z6y,z6y,z6y];refine(z9q w.heap.size w.heap.size _ (st ([60]++t.name++Mk.written t.ats++[62])) W (z3l BU1.out (fun k hk=>hW.block k hk)) (by rw[y9];simp only [List.length_append,List.length_cons,List.length_nil];omega) (by omega) N (by omega) (by omega) (fun v q e=>by have:=HROW.out v ((hW.cell (p:=⟨w.heap.size,1,none⟩) hbw1).symm.trans q) N e;omega)).mono ?_;rintro e w3 ⟨rfl,hb3,hl3,hn3⟩;exact⟨_,rfl,by rw[HBS.out,Lib.byteCells_append];exact .inr hb3,hl3,hn3⟩
     clear n0 n3 PB BU1 HVA HROW hle hbl
     go_region_held3 (fun w'=>w'.cell? ⟨N,1,none⟩=some (.string (st t.name))∧w'.cell? ⟨N,2,none⟩=some (.slice aot t.ats.length capt)) (first
      | exact HFR.out _ rfl
      | exact HFR.out _ (hB2.block N hNl)
      | exact HFR.out _ (hn3.trans (hB2.block N hNl))) (first | (go_at_call 70;refine(HWR.out _ (Below.refl _ _).drew).mono ?_;rintro e w2 ⟨rfl,hb2⟩;have hB2:Below w1.heap.size w1 w2:=((Below.refl _ _).drew).trans hb2) | (go_at_call 68;refine(HWS.out _ hB2).mono ?_;rintro e w3 ⟨v3,rfl,bu3,hl3,hn3⟩))
     all_goals
      have HE:=Ld (And.intro bu3 ((BL1.out.trans (hB2.mono hsz1)).trans hl3));clear HFR HWS HWR bu3 hl3 hn3 hB2 hb2 q1 q2 q3;go_wp2_with fail;go_roundw
      case rel=>exact⟨k + 1,by omega,by go_num,HE.out.1,HE.out.2⟩
      case measure=>simp[intOf];omega
    ·by_cases h3:t.kind=3
     ·have htb:Mk.X3 t=[60,47]++t.name++[62]:=by unfold Mk.X3;rw[if_neg h1,if_neg h2,if_pos h3]
      rw[htb] at HBS hle hbl;simp only [List.length_append,List.length_cons,List.length_nil] at hle hbl;rw[h3] at n0 PB ⊢;clear h1 h2 h3 htb;have q1:¬ 9223372036854775807 < 2 + (st t.name).size:=by rw[y9];omega
      have q2:¬ 9223372036854775807 < 2 + (st t.name).size + 1:=by rw[y9];omega
      go_wp2_with fail;rw[show (⟨#[60,47]⟩:ByteArray)=st [60,47] from rfl,show (⟨#[62]⟩:ByteArray)=st [62] from rfl,z6y,z6y];refine(z0w w.heap.size w.heap.size _ (st ([60,47]++t.name++[62])) _ BU1.out (by rw[y9];simp only [List.length_append,List.length_cons,List.length_nil];omega) hsz1).mono ?_;rintro e w3 ⟨rfl,hb3,hl3⟩;have BU3:Hid (Lib.IsBuilder 110 5 w.heap.size w.heap.size (Lib.byteCells (Mk.bytes (l.take (k + 1)))) w3):=by
       show Lib.IsBuilder _ _ _ _ _ _;rw[HBS.out,Lib.byteCells_append];exact .inr hb3
      have BL3:=Ld (BL1.out.trans hl3);clear hb3 hl3 BU1 BL1 n0 n1 n2 n3;go_wp2_with fail;go_roundw
      case rel=>exact⟨k + 1,by omega,by go_num,BU3.out,BL3.out⟩
      case measure=>simp[intOf];omega
     ·have htb:Mk.X3 t=[]:=by unfold Mk.X3;rw[if_neg h1,if_neg h2,if_neg h3]
      rw[htb,List.append_nil] at HBS;have BU3:Hid (Lib.IsBuilder 110 5 w.heap.size w.heap.size (Lib.byteCells (Mk.bytes (l.take (k + 1)))) w1):=by
       show Lib.IsBuilder _ _ _ _ _ _;rw[HBS.out];exact BU1.out
      clear htb;go_wp2_with fail;go_roundw
      case rel=>exact⟨k + 1,by omega,by go_num,BU3.out,BL1.out⟩
      case measure=>simp[intOf];omega
  ·have hke:k=l.length:=by omega
   subst hke;rw[List.take_length] at BU;go_wp2_with fail;refine(Tryz.Builder_String_any w.heap.size w.heap.size _ _ BU.out hsz).mono ?_;rintro e wz ⟨rfl,hbz⟩;have lz:=BL.out.trans hbz;clear hbz BU BL;go_wp2_with fail;go_ret;exact⟨rfl,lz⟩
end Go.Proofs.YtagleefekmdldaaGreatDoor
