/- Contracts of slices.Clone at attributes and of the method names of a tree's builder. -/
import Derived.Test.YtjonkbdldebkiaaGreatDoorVMkClean4
import Derived.Test.YtjonkbdldebkiaaGreatDoorVMkTok8
import Derived.Deep.RegionHeld3
import Derived.RegionTactic
import Derived.ChangeAlike
set_option linter.unusedVariables false
set_option linter.unusedSimpArgs false
set_option maxHeartbeats 16000000
set_option maxRecDepth 100000
namespace Go.Proofs.YtjonkbdldebkiaaGreatDoor
open Go.Proofs.Tryz Go.RowKit
theorem q9a (l:List Mk.At) (v:Value) (K:Nat→Prop) (w:World) (hv:AtsV w K v l) (hK:∀ b,K b→b < w.heap.size) (hl:l.length≤1099511627776) :
  Calls prog 161 #[v] w fun e w'=>∃ v',e=.returned v'∧w'.ownsRow w.heap.size 56 2 v' l.length (Y8 l)∧Below w.heap.size w w':=by
 obtain⟨ao,cap,rfl,hat,hcap,hml⟩:=hv;have hlen:=z7u l;have h1c:∀ u ∈ Y8 l,u.oneCell'=true:=by
  intro u hu;obtain⟨x,_,hx⟩:=List.mem_flatMap.1 hu;simp at hx
  rcases hx with rfl | rfl <;> rfl
 have q50:∀ (w:World) (a:Option Addr) (n c n' c':Nat),(binOp .eql 50 (.slice a n c) (.slice none n' c')).run prog w=.ok (.bool a.isNone) w:=fun w a n c n' c'=>Lib.run_eql_slice_nil w _ _ a n c n' c' underlying50
 have u50:∀ w,Sem.run prog (underlying 50) w=.ok (TypeDesc.slice 56) w:=run_underlying underlying50;obtain⟨i0,hi,hz0,hz1,hz2⟩:=info_parts Tryz.infoAttr
 cases ao with
 | none =>
  have hnil:Y8 l=[]:=by
   rcases hat with q | ⟨g,o,q,_⟩
   ·exact q
   ·cases q
  have hl0:l.length=0:=by rw[hnil] at hlen;simp at hlen;omega
  rw[hnil,hl0];clear hat hl hcap hml hnil hlen h1c hl0;go_enter func161,ntmps161;go_wp2;go_ret;exact⟨_,rfl,World.ownsRow_nil _ _ _ _,Below.refl _ _⟩
 | some a =>
  have hcs:∀ (j:Nat) (u:Value),(Y8 l)[j]? = some u→(w.alloc (.cells #[] 56)).cell? (a.add j)=some u:=by
   intro j u hj
   rcases hat with q | ⟨g,o,q,_,hc⟩
   ·rw[q] at hj;cases hj
   ·injection q with q
    subst q;rw[Addr.add_lit];exact Lib.cell?_alloc_some _ (hc j u hj)
  have HCS:=Ld hcs;have H1C:=Ld h1c;have HLN:=Ld hlen;clear hat hcs h1c hlen;go_enter func161,ntmps161;go_wp2_with (at_builtin;refine wpList_append_own _ rfl _ _ 50 rfl w.heap.size 56 i0 (.agg #[.string ⟨#[]⟩,.string ⟨#[]⟩]) 2 32 underlying50 hi hz0 hz1 hz2 rfl (by decide) _ _ _ rfl (World.ownsRow_made w #[] 0 (Lr) (Nat.zero_le _) rfl) a l.length cap (Y8 l) rfl HLN.out HCS.out H1C.out (by rw[Nat.zero_add];exact hml) (by omega) (by simp) ?_);intro v' w1 hown hgrow hnil;go_wp2;go_ret;refine⟨v',rfl,by simpa using hown,?_⟩;exact((Below.refl _ w).alloc (Lr) _).grown hgrow (by simp) (by intro k hk;simp[Value.ownBlock] at hk;omega)
theorem j2j (l:List (List UInt8)) (k:Nat) (h:k < l.length) (n:List UInt8) (hn:l[k]? = some n):Y6 (l.take (k + 1))=Y6 (l.take k)++[.string (st n)]:=by
 rw[List.take_add_one,hn];simp[Y6]
theorem j0f {w:World} {B P:Nat} {K:Nat→Prop} (b:Mk.Bld) (h:BldS w B P K b) (hl:b.ops.length≤1048576) :
  Calls prog 191 #[.pointer (some ⟨P,0,none⟩)] w fun e w'=>∃ v',e=.returned v'∧w'.ownsRow w.heap.size 9 1 v' b.names.length (Y6 b.names)∧Below w.heap.size w w':=by
 obtain⟨vn,vo,ns,xo,h⟩:=h;have hPl:=Blk.lt h.blk;obtain⟨aoo,capo,hvo⟩:=Z9 h.ro;subst hvo;have c1:w.cell? ⟨P,1,none⟩=some (.slice aoo b.ops.length capo):=Blk.cell h.blk 1;have hcells:∀ k n a,b.ops[k]? = some (n,a)→∃ go aoa capa,aoo=some ⟨go,0,none⟩∧go < w.heap.size∧w.cell? ⟨go,k * 4,none⟩=some (.string (st n))∧w.cell? ⟨go,k * 4 + 1,none⟩=some (.slice aoa a.length capa)∧w.cell? ⟨go,k * 4 + 2,none⟩=some (.string (st []))∧w.cell? ⟨go,k * 4 + 3,none⟩=some (.slice none 0 0):=by
  intro k n a hk;obtain⟨va,hva,x0,x1,x2,x3⟩:=h.oc.at_ k n a hk
  obtain⟨aoa,capa,hva1,_⟩:=hva;subst hva1
  rcases h.ro.2 with ⟨hv,hn⟩ | ⟨g,cap,cur,hv,hb,hh,hnc,hcm,hcs,ht⟩
  ·exfalso
   rw[List.getElem?_eq_none (by omega)] at hk;cases hk
  ·injection hv with e1 e2 e3
   subst e1;have hc:=h.ro.cells (g:=g) rfl;have e0:∀ j,(⟨g,0,none⟩:Addr).add j=⟨g,j,none⟩:=by intro j;unfold Addr.add;split <;> simp_all
   have y0:=hc _ _ x0;have y1:=hc _ _ x1;have y2:=hc _ _ x2;have y3:=hc _ _ x3;rw[e0] at y0 y1 y2 y3;exact⟨g,aoa,capa,rfl,(h.ro.lt g rfl).2,y0,y1,y2,y3⟩
 have hnm:=b.q6p;have hnl:b.names.length=b.ops.length:=by rw[hnm];simp
 have HC:=Ld hcells;clear h hcells;obtain⟨i0,hi,hz0,hz1,hz2⟩:=info_parts Tryz.infoStr;have HNM:=Ld hnm;have HNL:=Ld hnl;clear hnm hnl;go_enter func191,ntmps191;go_wp2_with fail
 go_loopw [3,11] (fun u i wr=>∃ k:Nat,k≤b.ops.length∧i=.int .i64 k∧Hid (wr.ownsRow w.heap.size 9 1 u k (Y6 (b.names.take k)))∧Hid (Below w.heap.size w wr)) (fun _ i _=>b.ops.length - (intOf i).toNat)
 case atStart=>exact⟨0,Nat.zero_le _,rfl,World.ownsRow_nil _ _ _ _,Below.refl _ _⟩
 case round =>
  obtain⟨k,hk,rfl,OW,BL⟩:=hrel;have hsz:=BL.out.size
  by_cases hlt:k < b.ops.length
  ·obtain⟨⟨n,a⟩,hka⟩:∃ o,b.ops[k]? = some o:=⟨_,List.getElem?_eq_getElem hlt⟩
   obtain⟨go,aoa,capa,rfl,hgl,y0,y1,y2,y3⟩:=HC.out k n a hka;rw[← BL.out.cell (p:=⟨go,_,none⟩) hgl] at y0 y1 y2 y3;have HT:Hid (Y6 (b.names.take (k + 1))=Y6 (b.names.take k)++[.string (st n)]):=j2j _ k (by rw[HNL.out];exact hlt) n (by rw[HNM.out,List.getElem?_map,hka];rfl);obtain⟨ao1,cap1,hu⟩:=Z9 OW.out;subst hu;clear hka;have PB:=Ld (Blk.new wr 53 #[.string (st n),.slice aoa a.length capa,.string (st []),.slice none 0 0]);have hal:=(Below.refl wr.heap.size wr).alloc (Lr) (.cells #[.string (st n),.slice aoa a.length capa,.string (st []),.slice none 0 0] 53);have hb11:=hal.alloc hal.size (.cells #[.string (st n)] 9);have ow10:=z0f OW.out (((Ap.refl (fun _=>False) wr).alloc (.cells #[.string (st n),.slice aoa a.length capa,.string (st []),.slice none 0 0] 53)).alloc (.cells #[.string (st n)] 9)) (fun _ _ q=>q);have HNEW:Hid (∀ j u,[Value.string (st n)][j]? = some u→((wr.alloc (.cells #[.string (st n),.slice aoa a.length capa,.string (st []),.slice none 0 0] 53)).alloc (.cells #[.string (st n)] 9)).cell? ((⟨wr.heap.size + 1,0,none⟩:Addr).add j)=some u):=by
    have q:=cell_one_new (wr.alloc (.cells #[.string (st n),.slice aoa a.length capa,.string (st []),.slice none 0 0] 53)) (.string (st n)) 9;rw[World.size_alloc] at q;exact q
   go_wp2_with (at_builtin;refine J3 rfl _ _ 24 rfl w.heap.size 9 i0 (.string ⟨#[]⟩) 1 16 underlying24 hi hz0 hz1 hz2 rfl (by decide) _ _ _ rfl ow10 ⟨wr.heap.size + 1,0,none⟩ 1 1 [.string (st n)] rfl rfl HNEW.out (one_cell _ rfl) (by decide) (by unfold maxLen;omega) (by omega) (by simp;omega) ?_);intro v' w2 hown' hgrow hfresh;have OW2:Hid (w2.ownsRow w.heap.size 9 1 v' (k + 1) (Y6 (b.names.take (k + 1)))):=by show World.ownsRow _ _ _ _ _ _ _;rw[HT.out];exact hown'
   have BL2:Hid (Below w.heap.size w w2):=(BL.out.trans (hb11.mono hsz)).grown hgrow (by simp;omega) (fun q hq=>(OW.out.lt q hq).1);clear hown' hgrow hfresh ow10 hb11 hal y0 y1 y2 y3 PB BL OW HT;go_wp2_with fail;go_roundw
   case rel=>exact⟨k + 1,by omega,by go_num,OW2,BL2⟩
   case measure=>simp[intOf];omega
  ·have hke:k=b.ops.length:=by omega
   have HO:Hid (wr.ownsRow w.heap.size 9 1 u3 b.names.length (Y6 b.names)):=by
    show World.ownsRow _ _ _ _ _ _ _;have q:=OW.out;rw[List.take_of_length_le (by rw[HNL.out];omega)] at q;rw[HNL.out,← hke];exact q
   clear hke OW;go_wp2_with fail;go_ret;exact⟨_,rfl,HO.out,BL.out⟩
end Go.Proofs.YtjonkbdldebkiaaGreatDoor
namespace Go.Proofs.YtjonkbdldebkiaaGreatDoor
open Go.RowKit
theorem j5u {w10 wF:World} {B g' cap' m:Nat} {e:TypeId} {xs:List Value} {z0 z1 z2 z3 u0 u1 u2 u3 uq:Value} {q:Addr} {N:Nat} (hx:xs.length=m * 4) (hown:w10.ownsRow B e 4 (.slice (some ⟨g',0,none⟩) N cap') N (xs++[z0,z1,z2,z3])) (hgg:q.block ≠ g')
  (hF:wF.heap=(((((w10.setCell ⟨g',m * 4,none⟩ u0).setCell ⟨g',m * 4 + 1,none⟩ u1).setCell ⟨g',m * 4 + 2,none⟩ u2).setCell ⟨g',m * 4 + 3,none⟩ u3).setCell q uq).heap∨wF.heap=(((((w10.setCell q uq).setCell ⟨g',m * 4,none⟩ u0).setCell ⟨g',m * 4 + 1,none⟩ u1).setCell ⟨g',m * 4 + 2,none⟩ u2).setCell ⟨g',m * 4 + 3,none⟩ u3).heap) :
  wF.ownsRow B e 4 (.slice (some ⟨g',0,none⟩) N cap') N (xs++[u0,u1,u2,u3])∧(∀ b,b ≠ g'→wF.heap[b]? = (w10.setCell q uq).heap[b]?)∧wF.heap.size=w10.heap.size:=by
 have hF:wF.heap=(((((w10.setCell ⟨g',m * 4,none⟩ u0).setCell ⟨g',m * 4 + 1,none⟩ u1).setCell ⟨g',m * 4 + 2,none⟩ u2).setCell ⟨g',m * 4 + 3,none⟩ u3).setCell q uq).heap:=by
  rcases hF with h | h
  ·exact h
  ·exact h.trans (z99 _ _ _ _ _ _ _ _ _ _ _ (fun e=>hgg e.symm) (fun e=>hgg e.symm) (fun e=>hgg e.symm) (fun e=>hgg e.symm))
 have hg':(Value.slice (some ⟨g',0,none⟩) N cap').ownBlock=some g':=rfl;have S1:=z4n hown hg' (m * 4) u0;have S2:=z4n S1 hg' (m * 4 + 1) u1;have S3:=z4n S2 hg' (m * 4 + 2) u2;have S4:=z4n S3 hg' (m * 4 + 3) u3;rw[set4 hx] at S4;have S5:=ownsRow_setCell_other S4 (a:=q) (by rw[hg'];intro e;injection e with e;exact hgg e.symm) uq;refine⟨V7 S5 (fun g _=>by rw[hF]),fun b h1=>?_,by rw[hF];simp[World.setCell]⟩
 by_cases h2:b=q.block
 ·rw[hF,z99 w10 q ⟨g',m * 4,none⟩ ⟨g',m * 4 + 1,none⟩ ⟨g',m * 4 + 2,none⟩ ⟨g',m * 4 + 3,none⟩ uq u0 u1 u2 u3 (fun e=>hgg e.symm) (fun e=>hgg e.symm) (fun e=>hgg e.symm) (fun e=>hgg e.symm) |>.symm]
  rw[Below.heap_setCell _ ⟨g',m * 4 + 3,none⟩ _ b h1,Below.heap_setCell _ ⟨g',m * 4 + 2,none⟩ _ b h1,Below.heap_setCell _ ⟨g',m * 4 + 1,none⟩ _ b h1,Below.heap_setCell _ ⟨g',m * 4,none⟩ _ b h1]
 ·rw[hF,Below.heap_setCell _ q _ b h2,Below.heap_setCell _ ⟨g',m * 4 + 3,none⟩ _ b h1,Below.heap_setCell _ ⟨g',m * 4 + 2,none⟩ _ b h1,Below.heap_setCell _ ⟨g',m * 4 + 1,none⟩ _ b h1,Below.heap_setCell _ ⟨g',m * 4,none⟩ _ b h1,Below.heap_setCell w10 q _ b h2]
section
variable {w1 w9 w10 wF : World} {B P : Nat} {K : Nat→Prop} {fs : List Mk.Fo} {os : List (Mk.Bs × List Mk.At)} {vn vo v' : Value} {ns xo : List Value}
theorem j1d (h:BldV w1 B P K fs os vn vo ns xo) (hb9:Below w1.heap.size w1 w9) (hown:w10.ownsRow B 53 4 v' (os.length + 1) (xo++[.string ⟨#[]⟩,.slice none 0 0,.string ⟨#[]⟩,.slice none 0 0])) (hg:w9.grownBy w10 vo.ownBlock)
  (hf:v'.ownBlock=vo.ownBlock∨v'.ownBlock=some w9.heap.size) :
  ∃ g' cap',v'=.slice (some ⟨g',0,none⟩) (os.length + 1) cap'∧w10.cell? ⟨g',os.length * 4,none⟩=some (.string ⟨#[]⟩)∧w10.cell? ⟨g',os.length * 4 + 1,none⟩=some (.slice none 0 0)∧w10.cell? ⟨g',os.length * 4 + 2,none⟩=some (.string ⟨#[]⟩)∧w10.cell? ⟨g',os.length * 4 + 3,none⟩=some (.slice none 0 0)∧(∀ i,w10.frozen? ⟨g',i,none⟩=false)∧P ≠ g'∧Blk w10 P 186 #[vn,vo]∧(∀ b,b < w1.heap.size→vo.ownBlock ≠ some b→w10.heap[b]? = w1.heap[b]?):=by
 have hP:=Blk.lt h.blk;have hfr:∀ b,b < w1.heap.size→vo.ownBlock ≠ some b→w10.heap[b]? = w1.heap[b]?:=fun b h1 h2=>(hg.block b (Nat.lt_of_lt_of_le h1 hb9.size) (fun e=>h2 e.symm)).trans (hb9.block b h1)
 have hPo:vo.ownBlock ≠ some P:=fun e=>(h.do_ P e).1 rfl
 have hx:=h.oc.length
 rcases hown.2 with ⟨_,h0⟩ | ⟨g',cap',cur,hv,hb,hh,hnc,hcm,hcs,ht⟩
 ·omega
 ·have hc:=hown.cells (g:=g') (by rw[hv];rfl)
  have e0:∀ j,(⟨g',0,none⟩:Addr).add j=⟨g',j,none⟩:=by intro j;unfold Addr.add;split <;> simp_all
  have hcc:∀ i u,[Value.string ⟨#[]⟩,.slice none 0 0,.string ⟨#[]⟩,.slice none 0 0][i]? = some u→w10.cell? ⟨g',os.length * 4 + i,none⟩=some u:=by
   intro i u hu;have:=hc (os.length * 4 + i) u (by rw[List.getElem?_append_right (by omega),hx];simpa using hu)
   rwa [e0] at this
  refine⟨g',cap',hv,hcc 0 _ rfl,hcc 1 _ rfl,hcc 2 _ rfl,hcc 3 _ rfl,fun i=>by simp[World.frozen?,hh],?_,(hfr P hP hPo).trans h.blk,hfr⟩;rintro rfl
  rcases hf with e | e
  ·rw[hv] at e;exact hPo e.symm
  ·rw[hv] at e
   have e:some P=some w9.heap.size:=e;injection e with e;have:=hb9.size;omega
theorem q0q (h:BldV w1 B P K fs os vn vo ns xo) (hb9:Below w1.heap.size w1 w9) {g' cap':Nat}
  (hown:w10.ownsRow B 53 4 (.slice (some ⟨g',0,none⟩) (os.length + 1) cap') (os.length + 1) (xo++[.string ⟨#[]⟩,.slice none 0 0,.string ⟨#[]⟩,.slice none 0 0])) (hg:w9.grownBy w10 vo.ownBlock)
  (hf:(Value.slice (some ⟨g',0,none⟩) (os.length + 1) cap').ownBlock=vo.ownBlock∨(Value.slice (some ⟨g',0,none⟩) (os.length + 1) cap').ownBlock=some w9.heap.size) (hgP:P ≠ g')
  {n:List UInt8} {a:List Mk.At} {va:Value} (h2:AtsV w1 K va a)
  (hF:wF.heap=(((((w10.setCell ⟨g',os.length * 4,none⟩ (.string (st n))).setCell ⟨g',os.length * 4 + 1,none⟩ va).setCell ⟨g',os.length * 4 + 2,none⟩ (.string (st []))).setCell ⟨g',os.length * 4 + 3,none⟩ (.slice none 0 0)).setCell ⟨P,1,none⟩ (.slice (some ⟨g',0,none⟩) (os.length + 1) cap')).heap∨wF.heap=(((((w10.setCell ⟨P,1,none⟩ (.slice (some ⟨g',0,none⟩) (os.length + 1) cap')).setCell ⟨g',os.length * 4,none⟩ (.string (st n))).setCell ⟨g',os.length * 4 + 1,none⟩ va).setCell ⟨g',os.length * 4 + 2,none⟩ (.string (st []))).setCell ⟨g',os.length * 4 + 3,none⟩ (.slice none 0 0)).heap) (ho:wF.os=w10.os) (htp:wF.tape=w10.tape) (hout:wF.output=w10.output) :
  BldV wF B P K fs (os++[(n,a)]) vn (.slice (some ⟨g',0,none⟩) (os.length + 1) cap') ns (xo++[.string (st n),va,.string (st []),.slice none 0 0])∧Ap (fun b=>B≤b∧¬ K b) w1 wF:=by
 have hg':(Value.slice (some ⟨g',0,none⟩) (os.length + 1) cap').ownBlock=some g':=rfl;obtain⟨SF,hbF,hsz⟩:=j5u h.oc.length hown (q:=⟨P,1,none⟩) hgP hF;have hP:=Blk.lt h.blk;have hPo:vo.ownBlock ≠ some P:=fun e=>(h.do_ P e).1 rfl
 have fr:g' < w1.heap.size→vo.ownBlock=some g':=by
  intro hlt
  rcases hf with e | e
  ·rw[← e];exact hg'
  ·rw[hg'] at e;injection e with e;have:=hb9.size;omega
 have hfr:∀ b,b < w1.heap.size→vo.ownBlock ≠ some b→w10.heap[b]? = w1.heap[b]?:=fun b h1 h2=>(hg.block b (Nat.lt_of_lt_of_le h1 hb9.size) (fun e=>h2 e.symm)).trans (hb9.block b h1)
 have hb:∀ b,b < w1.heap.size→vo.ownBlock ≠ some b→b ≠ P→wF.heap[b]? = w1.heap[b]?:=by
  intro b h1 h2 h3;rw[hbF b (by rintro rfl;exact h2 (fr h1)),Below.heap_setCell w10 ⟨P,1,none⟩ _ b h3,hfr b h1 h2]
 have hs:w1.heap.size≤wF.heap.size:=by rw[hsz];exact Nat.le_trans hb9.size hg.size
 have hKb:∀ b,K b→wF.heap[b]? = w1.heap[b]?:=fun b q=>hb b (h.kle b q).2 (fun e=>(h.do_ b e).2.1 q) (fun e=>h.nK (e ▸ q))
 have kp:∀ b,K b→K b∧wF.heap[b]? = w1.heap[b]?:=fun b q=>⟨q,hKb b q⟩
 have hblk:Blk wF P 186 #[vn,.slice (some ⟨g',0,none⟩) (os.length + 1) cap']:=by
  have q:Blk w10 P 186 #[vn,vo]:=(hfr P hP hPo).trans h.blk;exact(hbF P hgP).trans (Blk.set_ q 1 _)
 have hfo:∀ (i:Nat) (v:Value) (b:Nat),ns[i]? = some v→v.ownBlock=some b→wF.heap[b]? = w1.heap[b]?:=by
  intro i v b q1 q2;obtain⟨_,xs1,o,_⟩:=h.own_at q1;have q3:=h.df i v b q1 q2;exact hb b (o.own.lt b q2).2 q3.2.2.1 q3.1
 refine⟨⟨hblk,h.hP,h.nK,fun b q=>⟨(h.kle b q).1,Nat.lt_of_lt_of_le (h.kle b q).2 hs⟩,?_,?_,?_,?_,h.dn,?_,?_⟩,⟨ho.trans (hg.os.trans hb9.os),htp.trans (hg.tape.trans hb9.tape),hout.trans (hg.output.trans hb9.output),hs,fun b h1 h2=>?_⟩⟩
 ·exact V7 h.rn fun g e=>hb g (h.rn.lt g e).2 (fun q=>(h.do_ g q).2.2 e) (h.dn g e).1
 ·rw[List.length_append];exact SF
 ·exact(h.oc.frame kp).snoc (h2.frame kp)
 ·intro i f v q1 q2
  obtain⟨xs1,o⟩:=h.fo i f v q1 q2;refine⟨xs1,o.frame hs fun b b1 b2=>?_⟩
  rcases b2 with b2 | b2
  ·exact hKb b b2
  ·exact hfo i v b q2 b2
 ·intro g e
  rw[hg'] at e;injection e with e;subst e;refine⟨fun e=>hgP e.symm,fun q=>?_,fun q=>?_⟩
  ·exact(h.do_ g' (fr (h.kle g' q).2)).2.1 q
  ·exact(h.do_ g' (fr (h.rn.lt g' q).2)).2.2 q
 ·intro i v g q1 q2
  obtain⟨a1,a2,a3,a4⟩:=h.df i v g q1 q2;refine⟨a1,a2,fun e=>?_,a4⟩;rw[hg'] at e;injection e with e;subst e;obtain⟨_,xs1,o,_⟩:=h.own_at q1;exact a3 (fr (o.own.lt g' q2).2)
 ·by_cases hB:B≤b
  ·exact hKb b (Classical.byContradiction fun q=>h2 ⟨hB,q⟩)
  ·refine hb b h1 (fun e=>?_) (fun e=>?_)
   ·have:=(h.ro.lt b e).1;omega
   ·have:=h.hP;omega
theorem j4p (h:BldV w1 B P K fs os vn vo ns xo) (hb9:Below w1.heap.size w1 w9) (hown:w10.ownsRow B 51 1 v' (fs.length + 1) (ns++[.slice none 0 0])) (hg:w9.grownBy w10 vn.ownBlock)
  (hf:v'.ownBlock=vn.ownBlock∨v'.ownBlock=some w9.heap.size) :
  Blk w10 P 186 #[vn,vo]∧BldV (w10.setCell ⟨P,0,none⟩ v') B P K (fs++[.nil]) os v' vo (ns++[.slice none 0 0]) xo∧Ap (fun b=>B≤b∧¬ K b) w1 (w10.setCell ⟨P,0,none⟩ v'):=by
 have hP:=Blk.lt h.blk;have hPn:vn.ownBlock ≠ some P:=fun e=>(h.dn P e).1 rfl
 have fr:∀ g,v'.ownBlock=some g→g < w1.heap.size→vn.ownBlock=some g:=by
  intro g hg' hlt
  rcases hf with e | e
  ·rw[← e];exact hg'
  ·rw[hg'] at e;injection e with e;have:=hb9.size;omega
 have hfr:∀ b,b < w1.heap.size→vn.ownBlock ≠ some b→w10.heap[b]? = w1.heap[b]?:=fun b h1 h2=>(hg.block b (Nat.lt_of_lt_of_le h1 hb9.size) (fun e=>h2 e.symm)).trans (hb9.block b h1)
 have hb:∀ b,b < w1.heap.size→vn.ownBlock ≠ some b→b ≠ P→(w10.setCell ⟨P,0,none⟩ v').heap[b]? = w1.heap[b]?:=by
  intro b h1 h2 h3;rw[Below.heap_setCell w10 ⟨P,0,none⟩ _ b h3,hfr b h1 h2]
 have hs:w1.heap.size≤(w10.setCell ⟨P,0,none⟩ v').heap.size:=by
  have:(w10.setCell ⟨P,0,none⟩ v').heap.size=w10.heap.size:=by simp[World.setCell]
  rw[this];exact Nat.le_trans hb9.size hg.size
 have hKb:∀ b,K b→(w10.setCell ⟨P,0,none⟩ v').heap[b]? = w1.heap[b]?:=fun b q=>hb b (h.kle b q).2 (fun e=>(h.dn b e).2 q) (fun e=>h.nK (e ▸ q))
 have kp:∀ b,K b→K b∧(w10.setCell ⟨P,0,none⟩ v').heap[b]? = w1.heap[b]?:=fun b q=>⟨q,hKb b q⟩
 have hne:v'.ownBlock ≠ some P:=fun e=>hPn (fr P e hP)
 have hnl:=h.nlen;refine⟨(hfr P hP hPn).trans h.blk,⟨?_,h.hP,h.nK,fun b q=>⟨(h.kle b q).1,Nat.lt_of_lt_of_le (h.kle b q).2 hs⟩,?_,?_,h.oc.frame kp,?_,?_,?_,?_⟩,⟨hg.os.trans hb9.os,hg.tape.trans hb9.tape,hg.output.trans hb9.output,hs,fun b h1 h2=>?_⟩⟩
 ·have q:Blk w10 P 186 #[vn,vo]:=(hfr P hP hPn).trans h.blk
  exact Blk.set_ q 0 v'
 ·rw[List.length_append];exact ownsRow_setCell_other hown (a:=⟨P,0,none⟩) hne v'
 ·exact V7 h.ro fun g e=>hb g (h.ro.lt g e).2 (h.do_ g e).2.2 (h.do_ g e).1
 ·intro i f v q1 q2
  rcases Nat.lt_or_ge i fs.length with hi | hi
  ·rw[List.getElem?_append_left hi] at q1
   rw[List.getElem?_append_left (by omega)] at q2;obtain⟨xs1,o⟩:=h.fo i f v q1 q2;refine⟨xs1,o.frame hs fun b b1 b2=>?_⟩
   rcases b2 with b2 | b2
   ·exact hKb b b2
   ·have:=h.df i v b q2 b2
    exact hb b b1 this.2.1 this.1
  ·have hi2:i=fs.length:=by
    rcases Nat.lt_or_ge fs.length i with q | q
    ·rw[List.getElem?_eq_none (by simp;omega)] at q1;cases q1
    ·omega
   subst hi2;rw[z15 fs .nil _ rfl] at q1;rw[z15 ns _ _ hnl.symm] at q2;injection q1 with q1;injection q2 with q2;subst q1;subst q2;exact⟨[],⟨World.ownsRow_nil _ _ _ _,rfl,(fun g e=>(by cases e)),fun b q=>Nat.lt_of_lt_of_le (h.kle b q).2 hs⟩⟩
 ·intro g e
  refine⟨fun q=>hne (q ▸ e),fun q=>?_⟩;exact(h.dn g (fr g e (h.kle g q).2)).2 q
 ·intro g e
  obtain⟨a1,a2,a3⟩:=h.do_ g e;exact⟨a1,a2,fun q=>a3 (fr g q (h.ro.lt g e).2)⟩
 ·intro i v g q1 q2
  have hi:i < ns.length:=by
   rcases Nat.lt_or_ge i ns.length with hi | hi
   ·exact hi
   ·rcases Nat.lt_or_ge ns.length i with q | q
    ·rw[List.getElem?_eq_none (by simp;omega)] at q1;cases q1
    ·have:i=ns.length:=by omega
     subst this;rw[z15 ns _ _ rfl] at q1;injection q1 with q1;subst q1;cases q2
  rw[List.getElem?_append_left hi] at q1;obtain⟨a1,a2,a3,a4⟩:=h.df i v g q1 q2;obtain⟨_,xs1,o,_⟩:=h.own_at q1;refine⟨a1,fun e=>a2 (fr g e (o.own.lt g q2).2),a3,fun j u q3 q4=>?_⟩
  rcases Nat.lt_or_ge j ns.length with hj | hj
  ·rw[List.getElem?_append_left hj] at q3
   exact a4 j u q3 q4
  ·exfalso
   rcases Nat.lt_or_ge ns.length j with q | q
   ·rw[List.getElem?_eq_none (by simp;omega)] at q3;cases q3
   ·have:j=ns.length:=by omega
    subst this;rw[z15 ns _ _ rfl] at q3;injection q3 with q3;subst q3;cases q4
 ·by_cases hB:B≤b
  ·exact hKb b (Classical.byContradiction fun q=>h2 ⟨hB,q⟩)
  ·refine hb b h1 (fun e=>?_) (fun e=>?_)
   ·have:=(h.rn.lt b e).1;omega
   ·have:=h.hP;omega
end
end Go.Proofs.YtjonkbdldebkiaaGreatDoor
namespace Mk
theorem q9c (l:List Bs) (o:Option Nat):(q1x l o).length≤l.length:=by
 cases o with
 | none=>exact Lr
 | some k=>show (l.take k).length≤_;rw[List.length_take];omega
theorem j7j (l:List Bs) (n:Bs):stays l n≤l.length:=by
 unfold stays;have h1:∀ l:List Bs,(if q2j n then q1x l (above [112] q1r l) else l).length≤l.length:=by
  intro l;split
  ·exact q9c _ _
  ·exact Lr
 have h2:∀ l:List Bs,(if n == [108,105] then q1x l (above [108,105] q26 l) else l).length≤l.length:=by
  intro l;split
  ·exact q9c _ _
  ·exact Lr
 exact Nat.le_trans (h2 _) (h1 _)
namespace Bld
theorem q2q:∀ (n:Nat) (b:Bld),(ops (z4q n b)).length≤(ops b).length
 | 0,_=>Lr
 | n + 1,b=>by
  have h1:=q2q n b.pop;have h2:=q4w b;show (ops (z4q n b.pop)).length≤_;omega
theorem q0t (b:Bld) (n:Nat):(ops (b.close n)).length≤(ops b).length:=q2q _ b
theorem z6v (b:Bld) (n:Nat):bulk (b.close n)≤bulk b:=q0s _ b
theorem q6t (b:Bld) (n:Bs) (a:List At) (t:Bs) (k:Fo):ops (z7y b n a t k)=ops b:=by
 obtain⟨L,f,_,h⟩:=q51 b;exact(h n a t k).2
theorem z8n (b:Bld):b.names.length=b.ops.length:=by rw[q6p];simp
def tokB (l:List Tok):Nat:=(l.map fun t=>2 + t.name.length + t.text.length + Fo.atB t.ats).sum
theorem z6s (t:Tok) (l:List Tok):tokB (t :: l)=2 + t.name.length + t.text.length + Fo.atB t.ats + tokB l:=by simp[tokB]
theorem j7r (b:Bld) (t:Tok) (h:(ops b).length≤8):(ops (b.token t)).length≤8:=by
 unfold token
 split
 ·rw[q6t];exact h
 split
 ·have hc:=q0t b (stays b.names t.name)
  simp only []
  split
  ·omega
  split
  ·rw[q6t];omega
  ·rename_i h1 _
   rw[(q4y (b.close (stays b.names t.name)) t.name t.ats).2,List.length_append,List.length_singleton];rw[← z5q] at h1;omega
 split
 ·split
  ·exact h
  ·have:=q0t b;rename_i i _;have:=this i;omega
 ·exact h
theorem q3n (b:Bld) (t:Tok):bulk (b.token t)≤bulk b + (2 + t.name.length + t.text.length + Fo.atB t.ats):=by
 unfold token
 split
 ·have:=q9x b [] [] t.text .nil
  have e:Fo.atB []=0:=rfl;have e2:Fo.bulk .nil=0:=rfl;rw[e,e2] at this;simp only [List.length_nil] at this;omega
 split
 ·have hc:=z6v b (stays b.names t.name)
  simp only []
  split
  ·omega
  split
  ·have:=q9x (b.close (stays b.names t.name)) t.name t.ats [] .nil
   have e2:Fo.bulk .nil=0:=rfl;rw[e2] at this;simp only [List.length_nil] at this;omega
  ·obtain⟨e1,e2⟩:=q4y (b.close (stays b.names t.name)) t.name t.ats
   have e3:bulk (b.close (stays b.names t.name))=foB (fos (b.close (stays b.names t.name))) + opB (ops (b.close (stays b.names t.name))):=rfl;have e4:Fo.bulk .nil=0:=rfl;have e5:bulk b=foB (fos b) + opB (ops b):=rfl;unfold bulk;rw[e1,e2,z5n,q8i,z4l,q8j,e4];omega
 split
 ·split
  ·omega
  ·rename_i i _;have:=z6v b i;omega
 ·omega
end Bld
end Mk
namespace Go.Proofs.YtjonkbdldebkiaaGreatDoor
open Go.Proofs.Tryz Go.RowKit
theorem BldS.grow {w w1:World} {B P:Nat} {K S:Nat→Prop} {b:Mk.Bld} (h:BldS w B P K b) (hb:Below w.heap.size w w1) (hS:∀ x,S x→w.heap.size≤x∧x < w1.heap.size):BldS w1 B P (fun x=>K x∨S x) b:=by
 obtain⟨vn,vo,ns,xo,h⟩:=h;refine⟨vn,vo,ns,xo,(h.below hb).more (fun x q=>.inl q) ?_ ?_⟩
 ·rintro x (q | q)
  ·have:=h.kle x q
   have:=hb.size;omega
  ·have:=hS x q
   have:=h.blt;omega
 ·rintro x (q | q)
  ·refine⟨fun e=>h.nK (e ▸ q),fun e=>(h.dn x e).2 q,fun e=>(h.do_ x e).2.1 q,fun i v q1 e=>?_⟩
   obtain⟨_,_,o,_⟩:=h.own_at q1;exact o.ne x e q
  ·have hx:=(hS x q).1
   refine⟨fun e=>?_,fun e=>?_,fun e=>?_,fun i v q1 e=>?_⟩
   ·have:=Blk.lt h.blk;omega
   ·have:=(h.rn.lt x e).2;omega
   ·have:=(h.ro.lt x e).2;omega
   ·obtain⟨_,_,o,_⟩:=h.own_at q1
    have:=(o.own.lt x e).2;omega
theorem j7s {w:World} {B P:Nat} {K:Nat→Prop} {b:Mk.Bld} (h:BldS w B P K b) (n:List UInt8) (a:List Mk.At) (t:List UInt8) (va:Value) (hva:AtsV w K va a) (hbk:b.bulk + (1 + n.length + t.length + Mk.Fo.atB a)≤1099511627776) (hl:b.ops.length≤1048576) :
  Calls prog 189 #[.pointer (some ⟨P,0,none⟩),z05 n va t (.slice none 0 0)] w fun e w'=>e=.returned (.tuple #[])∧BldS w' B P K (b.z7y n a t .nil)∧Ap (fun x=>B≤x∧¬ K x) w w':=by
 obtain⟨vn,vo,ns,xo,h⟩:=h;obtain⟨L,f,h1,h2⟩:=b.q51;obtain⟨h3,h4⟩:=h2 n a t .nil;have hfl:=b.q81;rw[h1,List.length_append,List.length_singleton] at hfl;have hb:b.bulk=Mk.Bld.foB b.fos + Mk.Bld.opB b.ops:=rfl;rw[h1,Mk.Bld.z5n,Mk.Bld.z4l] at hb;rw[h1] at h;have e2:Mk.Fo.bulk .nil=0:=rfl;refine(tr_put h n a t .nil va hva none 0 [] (.inl rfl) rfl (Nat.zero_le _) (by rw[e2];omega) (by omega)).mono ?_;rintro e w' ⟨rfl,⟨ns',hb'⟩,hap⟩;exact⟨rfl,⟨vn,vo,ns',xo,by rw[h3,h4];exact hb'⟩,hap⟩
theorem Tryz.infoRow:(prog.info? 51).map (fun i=>(i.zero,i.size,i.bytes))=some (some (.slice none 0 0),1,24):=by kernel_rfl
theorem BldS.pushed {w wF:World} {B P:Nat} {K:Nat→Prop} {c:Mk.Bld} {n:List UInt8} {a:List Mk.At} {vn vo:Value} {ns xo:List Value} (h:BldV wF B P K (c.fos++[.nil]) (c.ops++[(n,a)]) vn vo ns xo):BldS wF B P K { c with open_:=c.open_++[⟨n,a,.nil⟩] }:=by
 obtain⟨e1,e2⟩:=c.q4y n a;exact⟨vn,vo,ns,xo,by rw[e1,e2];exact h⟩
theorem j5n (args:Array Value) (w:World):(callFunc 193 args).run prog w=.ok (.enter 193 args) w:=Z7 func193 (by kernel_rfl) rfl _ _
def tokV (t:Mk.Tok) (va:Value):Value:=.agg #[.int .i64 t.kind,.string (st t.name),va,.string (st t.text)]
theorem token_1 (b:Mk.Bld) (t:Mk.Tok) (h:t.kind=1):b.token t=b.z7y [] [] t.text .nil:=by unfold Mk.Bld.token;rw[if_pos h]
theorem token_2 (b:Mk.Bld) (t:Mk.Tok) (h:t.kind=2):b.token t=if (b.close (Mk.stays b.names t.name)).ops.length=8 then b.close (Mk.stays b.names t.name) else if Mk.z4f t.name then (b.close (Mk.stays b.names t.name)).z7y t.name t.ats [] .nil else { b.close (Mk.stays b.names t.name) with open_:=(b.close (Mk.stays b.names t.name)).open_++[⟨t.name,t.ats,.nil⟩] }:=by
 unfold Mk.Bld.token;rw[if_neg (by omega),if_pos h,Mk.Bld.z5q]
theorem token_3 (b:Mk.Bld) (t:Mk.Tok) (h:t.kind=3):b.token t=match Mk.above t.name (fun _=>false) b.names with | none=>b | some i=>b.close i:=by
 unfold Mk.Bld.token;rw[if_neg (by omega),if_neg (by omega),if_pos h];rfl
theorem token_0 (b:Mk.Bld) (t:Mk.Tok) (h1:t.kind ≠ 1) (h2:t.kind ≠ 2) (h3:t.kind ≠ 3):b.token t=b:=by
 unfold Mk.Bld.token;rw[if_neg h1,if_neg h2,if_neg h3]
theorem and_hid {a b:Prop} (h:a∧b):Hid a∧Hid b:=⟨h.1,h.2⟩
theorem tr_token {w:World} {B P:Nat} {K:Nat→Prop} (b:Mk.Bld) (h:BldS w B P K b) (hbk:b.bulk≤549755813888) (hl:b.ops.length≤8) (t:Mk.Tok) (va:Value) (Kt:Nat→Prop) (hva:AtsV w Kt va t.ats) (hKt:∀ g,Kt g→g < B) (htb:t.name.length + t.text.length + Mk.Fo.atB t.ats≤549755813880) :
  Calls prog 129 #[.pointer (some ⟨P,0,none⟩),tokV t va] w fun e w'=>e=.returned (.tuple #[])∧BldR B P K (b.token t) w w':=by
 have hst:∀ l:List UInt8,(st l).toList=l:=fun l=>Lib.toList_data _
 obtain⟨aot,capt,hva1,hva2⟩:=id hva;subst hva1;have hB:B≤w.heap.size:=by obtain⟨_,_,_,_,q⟩:=h;exact q.blt
 have hal:=(Below.refl w.heap.size w).alloc (Lr) (.cells #[.int .i64 t.kind,.string (st t.name),.slice aot t.ats.length capt,.string (st t.text)] 181);have PB:=Ld (Blk.new w 181 #[.int .i64 t.kind,.string (st t.name),.slice aot t.ats.length capt,.string (st t.text)]);have H1:Hid (BldS _ B P (fun x=>K x∨x=w.heap.size) b):=h.grow hal (fun x e=>by subst e;simp);have HVA:Hid (AtsV _ Kt (.slice aot t.ats.length capt) t.ats):=hva.frame (fun g hg=>⟨hg,hal.block g (Nat.lt_of_lt_of_le (hKt g hg) hB)⟩);have HKT:=Ld hKt;have HFIN:Hid (∀ w',BldR B P (fun x=>K x∨x=w.heap.size) (b.token t) (w.alloc (.cells #[.int .i64 t.kind,.string (st t.name),.slice aot t.ats.length capt,.string (st t.text)] 181)) w'→BldR B P K (b.token t) w w'):=fun w' q=>BldR.step (fun x q=>.inl q) (Ap.of_below hal) q
 have HK1:Hid ((fun x=>K x∨x=w.heap.size) w.heap.size):=.inr rfl;have hTB:w.heap.size < (w.alloc (.cells #[.int .i64 t.kind,.string (st t.name),.slice aot t.ats.length capt,.string (st t.text)] 181)).heap.size:=by simp
 unfold tokV;clear h hva hva2 hKt hal;go_enter func129,ntmps129;go_upto_region 1 with fail;generalize (fun x=>K x∨x=w.heap.size)=K1 at H1 HFIN HK1;generalize hw1:(w.alloc (.cells #[.int .i64 t.kind,.string (st t.name),.slice aot t.ats.length capt,.string (st t.text)] 181))=w1 at PB H1 HVA HFIN hTB ⊢;clear hw1;generalize w.heap.size=T at PB HK1 hTB hB ⊢;have hTl:T < w1.heap.size:=hTB;have k0:w1.cell? ⟨T,0,none⟩=some (.int .i64 t.kind):=Blk.cell PB.out 0;have k1:w1.cell? ⟨T,1,none⟩=some (.string (st t.name)):=Blk.cell PB.out 1;have k2:w1.cell? ⟨T,2,none⟩=some (.slice aot t.ats.length capt):=Blk.cell PB.out 2;have k3:w1.cell? ⟨T,3,none⟩=some (.string (st t.text)):=Blk.cell PB.out 3
 by_cases h1:t.kind=1
 ·have HT:Hid (b.token t=b.z7y [] [] t.text .nil):=token_1 b t h1
  rw[h1] at k0 PB ⊢;clear h1;have hput:=j7s H1.out [] [] t.text (.slice none 0 0) (AtsV.nil _ _) (by show b.bulk + (1 + 0 + t.text.length + 0)≤_;omega) (by omega);have HPUT:=Ld hput;clear hput;go_wp2_with fail;refine HPUT.out.mono ?_;rintro e w2 ⟨rfl,hb2,ha2⟩;have HE:=Ld (HFIN.out w2 (BldR.of (by rw[HT.out];exact hb2) ha2));clear hb2 ha2 HPUT HFIN HT k0 k1 k2 k3;go_wp2_with fail;go_end0;exact⟨rfl,HE.out⟩
 ·by_cases h2:t.kind=2
  ·have HT:=Ld (token_2 b t h2)
   rw[h2] at k0 PB ⊢;clear h1 h2;have hcl:(b.close (Mk.stays b.names t.name)).ops.length≤8:=Nat.le_trans (b.q0t _) hl;have hcb:(b.close (Mk.stays b.names t.name)).bulk≤549755813888:=Nat.le_trans (b.z6v _) hbk;have hsl:Mk.stays b.names t.name≤1048576:=by have:=Mk.j7j b.names t.name;rw[b.z8n] at this;omega
   go_upto_region 5 with fail;have HN:=Ld (j0f b (H1.out.below (Below.refl _ _).drew) (by omega));have HFR:Hid (∀ W,Ap (fun x=>B≤x∧¬ K1 x) w1 W→W.cell? ⟨T,1,none⟩=some (.string (st t.name))):=fun W hW=>(cell_of_block (hW.block T hTl (fun q=>q.2 HK1.out)) _).trans k1
   have hnl:=b.z8n;have HNL:Hid (b.names.length≤33554432):=by show _≤_;omega
   have HCL:Hid (∀ W,BldS W B P K1 b→Calls prog 130 #[.pointer (some ⟨P,0,none⟩),.int .i64 (Mk.stays b.names t.name)] W fun e w'=>e=.returned (.tuple #[])∧BldR B P K1 (b.close (Mk.stays b.names t.name)) W w'):=fun W hW=>q5g b hW _ hsl hbk (by omega)
   clear hnl hsl;generalize b.close (Mk.stays b.names t.name)=c at HT HCL hcl hcb
   go_cut [] (fun wx=>Hid (BldR B P K1 c w1 wx))
   case first =>
    clear k0 k1 k2 k3;have k1:w1.cell? ⟨T,1,none⟩=some (.string (st t.name)):=Blk.cell PB.out 1
    go_region_held3 (fun w'=>w'.cell? ⟨T,1,none⟩=some (.string (st t.name))) (first
     | exact HFR.out _ ((Ap.refl _ _).drew)
     | exact HFR.out _ (Ap.of_below hB2)
     | exact HFR.out _ hA4) (first | (go_at_call 191;refine HN.out.mono ?_;rintro e w2 ⟨v2,rfl,ow2,hb2⟩;have hB2:Below w1.heap.size w1 w2:=((Below.refl _ _).drew).trans hb2;have SV2:=Ld (z0n.of_own (K:=fun _=>True) ow2 (fun _ _=>trivial));have BL2:=Ld (H1.out.below hB2);clear ow2 hb2) | (go_at_call 190;refine(tr_stays b.names t.name _ _ _ SV2.out HNL.out).mono ?_;rintro e w3 ⟨rfl,rfl⟩) | (go_at_call 130;refine(HCL.out _ BL2.out).mono ?_;rintro e w4 ⟨rfl,hr4⟩;have HR4:Hid (BldR B P K1 c w1 w4):=BldR.step (fun _ q=>q) (Ap.of_below hB2) hr4;have hA4:Ap (fun x=>B≤x∧¬ K1 x) w1 w4:=(by obtain⟨_,_,_,q⟩:=HR4.out;exact q);clear hr4))
    all_goals
     go_wp2_with fail;go_meet
     case rel=>exact HR4.out
   case rest =>
    obtain⟨K2,hK2,hb2,ha2⟩:=hcut.out;clear hcut;obtain⟨wb,hwb⟩:∃ x,x=wc:=⟨_,rfl⟩;subst hwb;have hTb:T < wb.heap.size:=Nat.lt_of_lt_of_le hTl ha2.size;have hw1b:wb.heap[T]? = w1.heap[T]?:=ha2.block T hTl (fun q=>q.2 HK1.out);have m1:wb.cell? ⟨T,1,none⟩=some (.string (st t.name)):=(cell_of_block hw1b _).trans k1;have m2:wb.cell? ⟨T,2,none⟩=some (.slice aot t.ats.length capt):=(cell_of_block hw1b _).trans k2;have hBb:B≤wb.heap.size:=by omega
    have HVB:Hid (AtsV wb Kt (.slice aot t.ats.length capt) t.ats):=HVA.out.frame (fun g hg=>⟨hg,ha2.block g (by have:=HKT.out g hg;omega) (fun q=>by have:=HKT.out g hg;omega)⟩);have hatl:=Mk.z5f t.ats;have HCLN:Hid (∀ W,Below wb.heap.size wb W→Calls prog 161 #[.slice aot t.ats.length capt] W fun e w'=>∃ v',e=.returned v'∧w'.ownsRow W.heap.size 56 2 v' t.ats.length (Y8 t.ats)∧Below W.heap.size W w'):=fun W hW=>q9a t.ats _ Kt W (HVB.out.frame (fun g hg=>⟨hg,hW.block g (by have:=HKT.out g hg;omega)⟩)) (fun g hg=>by have:=HKT.out g hg;have:=hW.size;omega) (by omega)
    have HFR2:Hid (∀ W,Below wb.heap.size wb W→W.cell? ⟨T,1,none⟩=some (.string (st t.name))∧W.cell? ⟨T,2,none⟩=some (.slice aot t.ats.length capt)):=fun W hW=>⟨(hW.cell (p:=⟨T,1,none⟩) hTb).trans m1,(hW.cell (p:=⟨T,2,none⟩) hTb).trans m2⟩
    have HB2:=Ld hb2;have HA2:=Ld ha2;have HK2:=Ld hK2;clear k0 k1 k2 k3 hb2 ha2 hK2 hw1b hatl HVA HCL HN HFR HNL PB H1;go_upto_region 6 with fail
    go_cut [4] (fun p wx=>∃ N ao7 cap7,p=.pointer (some ⟨N,0,none⟩)∧Hid (wb.heap.size≤N)∧Hid (Below wb.heap.size wb wx)∧Hid (Blk wx N 53 #[.string (st t.name),.slice ao7 t.ats.length cap7,.string ⟨#[]⟩,.slice none 0 0])∧Hid (AtsV wx (fun g=>wb.heap.size≤g∧g < wx.heap.size) (.slice ao7 t.ats.length cap7) t.ats))
    case first =>
     go_region_held3 (fun w'=>w'.cell? ⟨T,1,none⟩=some (.string (st t.name))∧w'.cell? ⟨T,2,none⟩=some (.slice aot t.ats.length capt)) (first
      | exact HFR2.out _ hB7
      | exact HFR2.out _ (hB7.alloc hB7.size _)
      | exact HFR2.out _ ((Below.refl _ _).drew)
      | exact HFR2.out _ (((Below.refl _ _).drew).alloc (Lr) _)
      | exact HFR2.out _ ((((hB7.setCell (p:=⟨wb.heap.size,0,none⟩) (Lr) _).setCell (p:=⟨wb.heap.size,1,none⟩) (Lr) _).setCell (p:=⟨wb.heap.size,2,none⟩) (Lr) _).setCell (p:=⟨wb.heap.size,3,none⟩) (Lr) _)) (first | (go_at_call 161;refine(HCLN.out _ ?_).mono ?_;(first | exact(Below.refl _ _).drew | exact((Below.refl _ _).drew).alloc (Lr) _);rintro e w7 ⟨v7,rfl,ow7,hb7⟩;obtain⟨ao7,cap7,rfl⟩:=Z9 ow7;have hB7:Below wb.heap.size wb w7:=(by first | exact((Below.refl _ _).drew).trans (hb7.mono (Lr)) | exact(((Below.refl _ _).drew).alloc (Lr) _).trans (hb7.mono (by simp)));(try (have z0:w7.cell? ⟨wb.heap.size,0,none⟩=some (.string ⟨#[]⟩):=(hb7.cell (p:=⟨wb.heap.size,0,none⟩) (by simp)).trans (Blk.cell (Blk.new wb.drew 53 #[.string ⟨#[]⟩,.slice none 0 0,.string ⟨#[]⟩,.slice none 0 0]) 0)));(try (have z1:w7.cell? ⟨wb.heap.size,1,none⟩=some (.slice none 0 0):=(hb7.cell (p:=⟨wb.heap.size,1,none⟩) (by simp)).trans (Blk.cell (Blk.new wb.drew 53 #[.string ⟨#[]⟩,.slice none 0 0,.string ⟨#[]⟩,.slice none 0 0]) 1)));(try (have z2:w7.cell? ⟨wb.heap.size,2,none⟩=some (.string ⟨#[]⟩):=(hb7.cell (p:=⟨wb.heap.size,2,none⟩) (by simp)).trans (Blk.cell (Blk.new wb.drew 53 #[.string ⟨#[]⟩,.slice none 0 0,.string ⟨#[]⟩,.slice none 0 0]) 2)));(try (have z3:w7.cell? ⟨wb.heap.size,3,none⟩=some (.slice none 0 0):=(hb7.cell (p:=⟨wb.heap.size,3,none⟩) (by simp)).trans (Blk.cell (Blk.new wb.drew 53 #[.string ⟨#[]⟩,.slice none 0 0,.string ⟨#[]⟩,.slice none 0 0]) 3)));(try (have g0:w7.frozen? ⟨wb.heap.size,0,none⟩=false:=(hb7.frozen (p:=⟨wb.heap.size,0,none⟩) (by simp)).trans (Blk.frozen (Blk.new wb.drew 53 #[.string ⟨#[]⟩,.slice none 0 0,.string ⟨#[]⟩,.slice none 0 0]) 0)));(try (have g1:w7.frozen? ⟨wb.heap.size,1,none⟩=false:=(hb7.frozen (p:=⟨wb.heap.size,1,none⟩) (by simp)).trans (Blk.frozen (Blk.new wb.drew 53 #[.string ⟨#[]⟩,.slice none 0 0,.string ⟨#[]⟩,.slice none 0 0]) 1)));(try (have g2:w7.frozen? ⟨wb.heap.size,2,none⟩=false:=(hb7.frozen (p:=⟨wb.heap.size,2,none⟩) (by simp)).trans (Blk.frozen (Blk.new wb.drew 53 #[.string ⟨#[]⟩,.slice none 0 0,.string ⟨#[]⟩,.slice none 0 0]) 2)));(try (have g3:w7.frozen? ⟨wb.heap.size,3,none⟩=false:=(hb7.frozen (p:=⟨wb.heap.size,3,none⟩) (by simp)).trans (Blk.frozen (Blk.new wb.drew 53 #[.string ⟨#[]⟩,.slice none 0 0,.string ⟨#[]⟩,.slice none 0 0]) 3)))))
     ·have hBF:=hB7.alloc hB7.size (.cells #[.string (st t.name),.slice ao7 t.ats.length cap7,.string ⟨#[]⟩,.slice none 0 0] 53)
      have hs7:=hB7.size;have at7:AtsV w7 (fun g=>wb.heap.size≤g∧g < w7.heap.size) (.slice ao7 t.ats.length cap7) t.ats:=AtsV.of_own ow7 (fun g hg=>⟨(ow7.lt g hg).1,(ow7.lt g hg).2⟩);have atF:AtsV (w7.alloc (.cells #[.string (st t.name),.slice ao7 t.ats.length cap7,.string ⟨#[]⟩,.slice none 0 0] 53)) (fun g=>wb.heap.size≤g∧g < (w7.alloc (.cells #[.string (st t.name),.slice ao7 t.ats.length cap7,.string ⟨#[]⟩,.slice none 0 0] 53)).heap.size) (.slice ao7 t.ats.length cap7) t.ats:=at7.frame (fun g hg=>⟨⟨hg.1,by have:=hg.2;simp;omega⟩,Below.heap_alloc w7 _ g hg.2⟩);have HREL:=Ld (And.intro hs7 (And.intro hBF (And.intro (Blk.new w7 53 #[.string (st t.name),.slice ao7 t.ats.length cap7,.string ⟨#[]⟩,.slice none 0 0]) atF)));clear hBF at7 atF HFR2 HCLN;go_wp2_with fail;go_meet
      case rel=>exact⟨w7.heap.size,ao7,cap7,rfl,HREL.out.1,HREL.out.2.1,HREL.out.2.2.1,HREL.out.2.2.2⟩
     ·have hBF:=((((hB7.setCell (p:=⟨wb.heap.size,0,none⟩) (Lr) (.string (st t.name))).setCell (p:=⟨wb.heap.size,1,none⟩) (Lr) (.slice ao7 t.ats.length cap7)).setCell (p:=⟨wb.heap.size,2,none⟩) (Lr) (.string ⟨#[]⟩)).setCell (p:=⟨wb.heap.size,3,none⟩) (Lr) (.slice none 0 0))
      have hs7:=hB7.size;have b7:Blk w7 wb.heap.size 53 #[.string ⟨#[]⟩,.slice none 0 0,.string ⟨#[]⟩,.slice none 0 0]:=(hb7.block wb.heap.size (by simp)).trans (Blk.new wb _ _);have at7:AtsV w7 (fun g=>wb.heap.size < g∧g < w7.heap.size) (.slice ao7 t.ats.length cap7) t.ats:=AtsV.of_own ow7 (fun g hg=>⟨by have:=(ow7.lt g hg).1;simp at this;omega,(ow7.lt g hg).2⟩);have atF:=at7.frame (w':=((((w7.setCell ⟨wb.heap.size,0,none⟩ (.string (st t.name))).setCell ⟨wb.heap.size,1,none⟩ (.slice ao7 t.ats.length cap7)).setCell ⟨wb.heap.size,2,none⟩ (.string ⟨#[]⟩)).setCell ⟨wb.heap.size,3,none⟩ (.slice none 0 0))) (K':=fun g=>wb.heap.size≤g∧g < ((((w7.setCell ⟨wb.heap.size,0,none⟩ (.string (st t.name))).setCell ⟨wb.heap.size,1,none⟩ (.slice ao7 t.ats.length cap7)).setCell ⟨wb.heap.size,2,none⟩ (.string ⟨#[]⟩)).setCell ⟨wb.heap.size,3,none⟩ (.slice none 0 0)).heap.size) (fun g hg=>⟨⟨by have:=hg.1;omega,by have:=hg.2;simpa [World.setCell] using this⟩,by
       have hne:g ≠ wb.heap.size:=by have:=hg.1;omega
       rw[Below.heap_setCell _ ⟨wb.heap.size,3,none⟩ _ g hne,Below.heap_setCell _ ⟨wb.heap.size,2,none⟩ _ g hne,Below.heap_setCell _ ⟨wb.heap.size,1,none⟩ _ g hne,Below.heap_setCell _ ⟨wb.heap.size,0,none⟩ _ g hne]⟩)
      have HREL:=Ld (And.intro hBF (And.intro (Blk.set_ (Blk.set_ (Blk.set_ (Blk.set_ b7 0 (.string (st t.name))) 1 (.slice ao7 t.ats.length cap7)) 2 (.string ⟨#[]⟩)) 3 (.slice none 0 0)) atF));clear hBF at7 atF HFR2 HCLN b7;go_wp2_with fail;go_meet
      case rel=>exact⟨wb.heap.size,ao7,cap7,rfl,Lr,HREL.out.1,HREL.out.2.1,HREL.out.2.2⟩
    case rest =>
     obtain⟨N,ao7,cap7,rfl,HNB,HBL,PN,HVN⟩:=hcut;obtain⟨wd,hwd⟩:∃ x,x=wc:=⟨_,rfl⟩;subst hwd;have hb4:BldS wd B P (fun x=>K2 x∨(wb.heap.size≤x∧x < wd.heap.size)) c:=HB2.out.grow HBL.out (fun x q=>q);have HKN:Hid ((fun x=>K2 x∨(wb.heap.size≤x∧x < wd.heap.size)) N):=.inr ⟨HNB.out,Blk.lt PN.out⟩;have HV4:Hid (AtsV wd (fun x=>K2 x∨(wb.heap.size≤x∧x < wd.heap.size)) (.slice ao7 t.ats.length cap7) t.ats):=HVN.out.frame (fun g hg=>⟨.inr hg,rfl⟩);have HK4:Hid (∀ x,K1 x→(fun x=>K2 x∨(wb.heap.size≤x∧x < wd.heap.size)) x):=fun x q=>.inl (HK2.out x q)
     have HA4:Hid (Ap (fun x=>B≤x∧¬ K1 x) w1 wd):=HA2.out.trans (Ap.of_below HBL.out);have n1:wd.cell? ⟨T,1,none⟩=some (.string (st t.name)):=(HBL.out.cell (p:=⟨T,1,none⟩) hTb).trans m1;have r0:wd.cell? ⟨N,0,none⟩=some (.string (st t.name)):=Blk.cell PN.out 0;have r1:wd.cell? ⟨N,1,none⟩=some (.slice ao7 t.ats.length cap7):=Blk.cell PN.out 1;have r2:wd.cell? ⟨N,2,none⟩=some (.string (st [])):=Blk.cell PN.out 2;have r3:wd.cell? ⟨N,3,none⟩=some (.slice none 0 0):=Blk.cell PN.out 3;have hNl:N < wd.heap.size:=Blk.lt PN.out;have hBd:B≤wd.heap.size:=Nat.le_trans hBb HBL.out.size;generalize (fun x=>K2 x∨(wb.heap.size≤x∧x < wd.heap.size))=K4 at hb4 HKN HV4 HK4;clear HB2 HA2 HK2 HVN HBL HNB HFR2 HCLN HVB m1 m2 hTb hBb PN HKT hTB hTl;obtain⟨vn,vo,ns,xo,hb4⟩:=hb4;obtain⟨aoo,capo,hvo⟩:=Z9 hb4.ro;subst hvo;obtain⟨aon,capn,hvn⟩:=Z9 hb4.rn;subst hvn;have c1:wd.cell? ⟨P,1,none⟩=some (.slice aoo c.ops.length capo):=Blk.cell hb4.blk 1;have hNo:(Value.slice aoo c.ops.length capo).ownBlock ≠ some N:=fun e=>(hb4.do_ N e).2.1 HKN.out
     have HB4:=Ld hb4;have hfl:=c.q81;clear hb4
     by_cases h8:c.ops.length=8
     ·have HE:=Ld (HFIN.out wd ⟨K4,HK4.out,(by rw[HT.out,if_pos h8];exact⟨_,_,_,_,HB4.out⟩),HA4.out⟩)
      have h8':(c.ops.length:Int)=8:=by omega
      clear HFIN HT HB4 h8;go_wp2_with fail;go_end0;exact⟨rfl,HE.out⟩
     ·have HT2:Hid (b.token t=if Mk.z4f t.name then c.z7y t.name t.ats [] .nil else { c with open_:=c.open_++[⟨t.name,t.ats,.nil⟩] }):=by show _=_;rw[HT.out,if_neg h8]
      have h8':¬ (c.ops.length:Int)=8:=by omega
      have hem:=j0e t.name wd;obtain⟨eb,heb⟩:∃ eb,Mk.z4f t.name=eb:=⟨_,rfl⟩;rw[heb] at hem HT2;have HEM:=Ld hem;clear hem heb HT h8
      cases eb with
      | true =>
       have HPUT:=Ld (j7s (b:=c) ⟨_,_,_,_,HB4.out⟩ t.name t.ats [] (.slice ao7 t.ats.length cap7) HV4.out (by simp only [List.length_nil];omega) (by omega));go_wp2_with fail;refine HEM.out.mono ?_;rintro e w5 ⟨rfl,hw5⟩;subst w5;unfold z05 at HPUT;go_wp2_with fail;refine HPUT.out.mono ?_;rintro e w6 ⟨rfl,hb6,ha6⟩;have HE:=Ld (HFIN.out w6 (BldR.step HK4.out HA4.out (BldR.of (by rw[HT2.out];exact hb6) ha6)));clear HFIN HT2 HB4 HPUT hb6 ha6 c1 n1 r0 r1 r2 r3 HEM;go_wp2_with fail;go_end0;exact⟨rfl,HE.out⟩
      | false =>
       go_wp2_with fail;refine HEM.out.mono ?_;rintro e w5 ⟨rfl,hw5⟩;subst w5;go_upto_region 7 with fail
       go_cut [] (fun wx=>∃ vo' xo',Hid (BldV wx B P K4 c.fos (c.ops++[(t.name,t.ats)]) (.slice aon c.fos.length capn) vo' ns xo')∧Hid (Ap (fun x=>B≤x∧¬ K4 x) wd wx))
       case first =>
        obtain⟨i0,hi,hz0,hz1,hz2⟩:=info_parts Tryz.infoNode;have OW10:=Ld (z0f HB4.out.ro (((Ap.refl (fun _=>False) wd).drew).alloc (.cells #[.string ⟨#[]⟩,.slice none 0 0,.string ⟨#[]⟩,.slice none 0 0] 53)) (fun _ _ q=>q));have hlf1:(c.ops.length:Int) < c.ops.length + 1:=by omega
        have hlf:c.ops.length≤8:=hcl;have HLF:=Ld hlf;have HNL:=Ld hNl;have HNO:=Ld hNo;have hPl:P < wd.heap.size:=Blk.lt HB4.out.blk;clear hbk hl htb hst hcb hfl h8' n1 hlf hcl hNo
        go_region_law (refine z0l rfl (.tmp 33) (.tmp 36) 51 rfl B 53 i0 (.agg #[.string ⟨#[]⟩,.slice none 0 0,.string ⟨#[]⟩,.slice none 0 0]) 4 80 underlying51 hi hz0 hz1 hz2 rfl (by decide) (.slice aoo c.ops.length capo) c.ops.length xo (by simp[Act.eval,Act.put]) OW10.out ⟨wd.heap.size,0,none⟩ 1 1 [.string ⟨#[]⟩,.slice none 0 0,.string ⟨#[]⟩,.slice none 0 0] (by simp[Act.eval,Act.put]) rfl (z0h wd.drew _ _) (by intro u hu;simp at hu;rcases hu with rfl | rfl | rfl | rfl <;> rfl) (by decide) (by have:=HLF.out;unfold maxLen;omega) (by have:=HLF.out;omega) (by simp;omega) ?_;intro v' w10 hown' hgrow hfresh;have hb9:=(((Below.refl _ wd).alloc (Lr) (.cells #[.string ⟨#[]⟩,.slice none 0 0,.string ⟨#[]⟩,.slice none 0 0] 53)).drew);obtain⟨g',cap',hv',k0,k1,k2,k3,hfz,hgg,hPB,hwn⟩:=j1d HB4.out hb9 hown' hgrow hfresh;subst hv';have kn:=Blk.cell hPB 1;have fn:=Blk.frozen hPB 1;have z0:=hfz (c.ops.length * 4);have z1:=hfz (c.ops.length * 4 + 1);have z2:=hfz (c.ops.length * 4 + 2);have z3:=hfz (c.ops.length * 4 + 3);have HD:=Ld (fun wF hF h1 h2 h3=>q0q (wF:=wF) HB4.out hb9 hown' hgrow hfresh hgg HV4.out (n:=t.name) hF h1 h2 h3);have hwb:=hwn N HNL.out HNO.out;have m0:=(cell_of_block hwb 0).trans r0;have m1:=(cell_of_block hwb 1).trans r1;have m2:=(cell_of_block hwb 2).trans r2;have m3:=(cell_of_block hwb 3).trans r3;clear hfz hown' hgrow hfresh hb9 hwn hwb hPB)
        all_goals
         clear k0 k1 k2 k3 kn fn m0 m1 m2 m3 z0 z1 z2 z3 OW10 hi hz0 hz1 hz2 hgg HLF HNL HNO HV4 HB4 r0 r1 r2 r3 c1 HEM HFIN HT2;go_wp2_with fail;go_meet
         case rel=>exact⟨_,_,and_hid (HD.out _ (by first | exact .inl (by with_reducible rfl) | exact .inr (by with_reducible rfl)) (by simp only [q3h]) (by simp only [z9t]) (by simp only [z7r]))⟩
       case rest =>
        obtain⟨vo',xo',HB5,HA5⟩:=hcut;obtain⟨we,hwe⟩:∃ x,x=wc:=⟨_,rfl⟩;subst hwe;clear r0 r1 r2 r3 n1 c1 HB4 HV4 HEM HKN hNo hNl;have c0:we.cell? ⟨P,0,none⟩=some (.slice aon c.fos.length capn):=Blk.cell HB5.out.blk 0;have hPe:P < we.heap.size:=Blk.lt HB5.out.blk;have hBe:B≤we.heap.size:=HB5.out.blt;obtain⟨i1,hi,hz0,hz1,hz2⟩:=info_parts Tryz.infoRow;have ow10:=z0f HB5.out.rn ((Ap.refl (fun _=>False) we).alloc (.cells #[.slice none 0 0] 51)) (fun _ _ q=>q);have HNEW:Hid (∀ j u,[Value.slice none 0 0][j]? = some u→(we.alloc (.cells #[.slice none 0 0] 51)).cell? ((⟨we.heap.size,0,none⟩:Addr).add j)=some u):=cell_one_new we (.slice none 0 0) 51;have hfl9:c.fos.length≤9:=by omega
        clear hbk hl htb hst hcb hfl h8' hcl;go_wp2_with (at_builtin;refine J3 rfl _ _ 184 rfl B 51 i1 (.slice none 0 0) 1 24 underlying184 hi hz0 hz1 hz2 rfl (by decide) _ _ _ rfl ow10 ⟨we.heap.size,0,none⟩ 1 1 [.slice none 0 0] rfl rfl HNEW.out (one_cell _ rfl) (by decide) (by unfold maxLen;omega) (by omega) (by simp;omega) ?_);intro v' w9 hown' hgrow hfresh;obtain⟨ao9,cap9,hv9⟩:=Z9 hown';subst hv9;obtain⟨hP9,hb9,ha9⟩:=j4p HB5.out ((Below.refl _ we).alloc (Lr) (.cells #[.slice none 0 0] 51)) hown' hgrow (by rw[World.size_alloc];exact hfresh);have HE:=Ld (HFIN.out _ (BldR.step HK4.out HA4.out (BldR.of (by rw[HT2.out,if_neg (by decide)];exact BldS.pushed (w:=w) hb9) (HA5.out.trans ha9))));have d0:w9.cell? ⟨P,0,none⟩=some (.slice aon c.fos.length capn):=Blk.cell hP9 0;have g0:w9.frozen? ⟨P,0,none⟩=false:=Blk.frozen hP9 0;clear hb9 ha9 hP9 hown' hgrow hfresh HNEW ow10 hi hz0 hz1 hz2 HFIN HT2 HB5 HA5 HA4 HK4 c0;go_wp2_with fail;go_end0;exact⟨rfl,HE.out⟩
  ·by_cases h3:t.kind=3
   ·have HT:=Ld (token_3 b t h3)
    rw[h3] at k0 PB ⊢;clear h1 h2 h3;go_upto_region 13 with fail;have hn:=j0f b (H1.out.below (Below.refl _ _).drew) (by omega);have HN:=Ld hn;have HFR:Hid (∀ W,Below w1.heap.size w1 W→W.cell? ⟨T,1,none⟩=some (.string (st t.name))):=fun W hW=>(hW.cell (p:=⟨T,1,none⟩) hTl).trans k1
    have hnl:=b.z8n;have HNL:Hid (b.names.length≤33554432):=by show _≤_;omega
    clear hn hnl
    go_cut [5] (fun v wx=>v=optV (Mk.above t.name (fun _=>false) b.names)∧Hid (BldS wx B P K1 b)∧Hid (Below w1.heap.size w1 wx))
    case first =>
     go_region_held3 (fun w'=>w'.cell? ⟨T,1,none⟩=some (.string (st t.name))) (first
      | exact HFR.out _ ((Below.refl _ _).drew)
      | exact HFR.out _ hB2) (first | (go_at_call 191;refine HN.out.mono ?_;rintro e w2 ⟨v2,rfl,ow2,hb2⟩;have hB2:Below w1.heap.size w1 w2:=((Below.refl _ _).drew).trans hb2;have SV2:=Ld (z0n.of_own (K:=fun _=>True) ow2 (fun _ _=>trivial));have BL2:=Ld (H1.out.below hB2);clear ow2 hb2) | (go_at_call 192;refine(q5f _ (fun _=>false) j5n tr_none b.names t.name _ _ _ SV2.out HNL.out).mono ?_;rintro e w3 ⟨rfl,rfl⟩))
     all_goals
      go_wp2_with fail;go_meet
      case rel=>exact⟨rfl,BL2.out,hB2⟩
    case rest =>
     obtain⟨rfl,HB2,HBL⟩:=hcut;obtain⟨o,ho⟩:∃ o,Mk.above t.name (fun _=>false) b.names=o:=⟨_,rfl⟩;rw[ho] at HT ⊢;have HO:=Ld ho;clear ho k0 k1 k2 k3
     cases o with
     | none =>
      have HE:=Ld (HFIN.out wc (BldR.of (by rw[HT.out];exact HB2.out) (Ap.of_below HBL.out)));clear HT;unfold optV;go_wp2_with fail;go_end0;exact⟨rfl,HE.out⟩
     | some i =>
      have hi:=Mk.q3x _ _ _ _ HO.out;have hnl:=b.z8n;have HC:=Ld (q5g b HB2.out i (by omega) hbk (by omega));clear hi hnl;unfold optV;go_wp2_with fail;refine HC.out.mono ?_;rintro e w3 ⟨rfl,hr3⟩;have HE:=Ld (HFIN.out w3 (BldR.step (fun _ q=>q) (Ap.of_below HBL.out) (by rw[HT.out];exact hr3)));clear HT HC hr3;go_wp2_with fail;go_end0;exact⟨rfl,HE.out⟩
   ·have HE:=Ld (HFIN.out w1 (BldR.of (by rw[token_0 b t h1 h2 h3];exact H1.out) (Ap.refl _ _)))
    go_wp2_with fail;go_end0;exact⟨rfl,HE.out⟩
end Go.Proofs.YtjonkbdldebkiaaGreatDoor
namespace Mk
namespace Bld
theorem z9n:∀ (n:Nat) (b:Bld),(ops (z4q n b)).length=(ops b).length - n
 | 0,_=>rfl
 | n + 1,b=>by
  have h1:=z9n n b.pop;have h2:=q4w b;show (ops (z4q n b.pop)).length=_;omega
theorem j0c:∀ l:List Tok,2 * l.length≤tokB l
 | []=>Nat.zero_le _
 | t :: r=>by
  have:=j0c r;rw[z6s,List.length_cons];omega
theorem q2r (b:Bld):ops (b.close 0)=[]:=by
 have h:=z9n (b.open_.length - 0) b;have h2:=z5q b;exact List.eq_nil_of_length_eq_zero (by show (ops (z4q (b.open_.length - 0) b)).length=0;omega)
theorem q9k (b:Bld) (h:ops b=[]):fos b=[b.root]:=by
 have h2:=z5q b;have:b.open_=[]:=List.eq_nil_of_length_eq_zero (by rw[← h2,h];rfl);simp[fos,this]
end Bld
end Mk
namespace Go.Proofs.YtjonkbdldebkiaaGreatDoor
open Go.Proofs.Tryz Go.RowKit
theorem z0y.at_ {w:World} {K:Nat→Prop}:∀ {l:List Mk.Tok} {xs:List Value},z0y w K l xs→∀ (i:Nat) (t:Mk.Tok),l[i]? = some t→∃ va,AtsV w K va t.ats∧xs[i * 4]? = some (.int .i64 t.kind)∧xs[i * 4 + 1]? = some (.string (st t.name))∧xs[i * 4 + 2]? = some va∧xs[i * 4 + 3]? = some (.string (st t.text))
 | [],_,_,i,t,hi=>by simp at hi
 | o :: r,_,⟨vb,ys,h1,h2,h3⟩,0,t,hi=>by
  simp at hi;subst hi;rw[h1];exact⟨vb,h2,rfl,rfl,rfl,rfl⟩
 | o :: r,_,⟨vb,ys,h1,h2,h3⟩,i + 1,t,hi=>by
  obtain⟨va,e0,e1,e2,e3,e4⟩:=z0y.at_ h3 i t (by simpa using hi)
  rw[h1];refine⟨va,e0,?_,?_,?_,?_⟩
  ·rw[show (i + 1) * 4=i * 4 + 4 by omega,List.getElem?_append_right (by simp)];simpa using e1
  ·rw[show (i + 1) * 4 + 1=i * 4 + 1 + 4 by omega,List.getElem?_append_right (by simp)];simpa using e2
  ·rw[show (i + 1) * 4 + 2=i * 4 + 2 + 4 by omega,List.getElem?_append_right (by simp)];simpa using e3
  ·rw[show (i + 1) * 4 + 3=i * 4 + 3 + 4 by omega,List.getElem?_append_right (by simp)];simpa using e4
theorem q1v.at_ {w:World} {K:Nat→Prop} {v:Value} {l:List Mk.Tok} (h:q1v w K v l):∃ ao cap,v=.slice ao l.length cap∧l.length≤maxLen∧∀ (k:Nat) (t:Mk.Tok),l[k]? = some t→∃ g o aot capt,ao=some ⟨g,o,none⟩∧K g∧AtsV w K (.slice aot t.ats.length capt) t.ats∧w.cell? ⟨g,o + k * 4,none⟩=some (.int .i64 t.kind)∧w.cell? ⟨g,o + k * 4 + 1,none⟩=some (.string (st t.name))∧w.cell? ⟨g,o + k * 4 + 2,none⟩=some (.slice aot t.ats.length capt)∧w.cell? ⟨g,o + k * 4 + 3,none⟩=some (.string (st t.text)):=by
 obtain⟨ao,cap,xs,h1,h2,h3,h4⟩:=h;refine⟨ao,cap,h1,h4,fun k t hk=>?_⟩;obtain⟨va,hva,x0,x1,x2,x3⟩:=h3.at_ k t hk
 obtain⟨aot,capt,hv1,_⟩:=id hva;subst hv1
 rcases h2 with h2 | ⟨g,o,e1,e2,e3⟩
 ·rw[h2] at x0;simp at x0
 ·exact⟨g,o,aot,capt,e1,e2,hva,e3 _ _ x0,e3 _ _ x1,e3 _ _ x2,e3 _ _ x3⟩
theorem bld_new (w:World):BldS ((w.alloc (.cells #[.slice none 0 0] 51)).alloc (.cells #[.slice (some ⟨w.heap.size,0,none⟩) 1 1,.slice none 0 0] 186)) w.heap.size (w.heap.size + 1) (fun _=>False) ⟨.nil,[]⟩:=by
 have hb:Blk (w.alloc (.cells #[.slice none 0 0] 51)) w.heap.size 51 #[.slice none 0 0]:=Blk.new w _ _;have hb2:=Blk.alloc hb (.cells #[.slice (some ⟨w.heap.size,0,none⟩) 1 1,.slice none 0 0] 186);have hp:=Blk.new (w.alloc (.cells #[.slice none 0 0] 51)) 186 #[.slice (some ⟨w.heap.size,0,none⟩) 1 1,.slice none 0 0];rw[World.size_alloc] at hp;refine⟨.slice (some ⟨w.heap.size,0,none⟩) 1 1,.slice none 0 0,[.slice none 0 0],[],hp,Nat.le_succ _,id,(fun _ (q:False)=>q.elim),⟨rfl,.inr ⟨w.heap.size,1,_,rfl,Lr,hb2,Lr,by decide,rfl,rfl⟩⟩,World.ownsRow_nil _ _ _ _,rfl,?_,?_,?_,?_⟩
 ·intro i f v h1 h2
  cases i with
  | zero =>
   injection h1 with h1;injection h2 with h2;subst h1;subst h2;exact⟨[],⟨World.ownsRow_nil _ _ _ _,rfl,(fun g e=>by cases e),(fun b (q:False)=>q.elim)⟩⟩
  | succ i=>simp[Mk.Bld.fos] at h1
 ·intro g e
  injection e with e;subst e;exact⟨Nat.ne_of_lt (Nat.lt_succ_self _),id⟩
 ·intro g e;cases e
 ·intro i v g h1 h2
  cases i with
  | zero=>injection h1 with h1;subst h1;cases h2
  | succ i=>simp at h1
theorem tr_Of (l:List Mk.Tok) (v:Value) (K:Nat→Prop) (w:World) (hv:q1v w K v l) (hK:∀ b,K b→b < w.heap.size) (hl:Mk.Bld.tokB l≤549755813000) :
  Calls prog 79 #[v] w fun e w'=>∃ v',e=.returned v'∧FoV w' (fun g=>w.heap.size≤g∧g < w'.heap.size) v' (Mk.build l)∧Below w.heap.size w w':=by
 obtain⟨ao,cap,hv1,hlm,hat⟩:=hv.at_
 subst hv1;have hll:=Mk.Bld.j0c l;have HAT:=Ld hat
 have HK:=Ld hK;have hal:=(((Below.refl w.heap.size w).alloc (Lr) (.cells #[.slice none 0 0] 51)).alloc (by simp) (.cells #[.slice (some ⟨w.heap.size,0,none⟩) 1 1,.slice none 0 0] 186));have HB0:=Ld (bld_new w);have HAL:=Ld hal;have hd0:Mk.Bld.bulk ⟨.nil,[]⟩=0:=rfl;clear hv hat hK hal;go_enter func79,ntmps79;go_wp2_with fail
 go_loopw [11] (fun i wr=>∃ (k:Nat) (c:Mk.Bld),k≤l.length∧i=.int .i64 k∧c.ops.length≤8∧Hid (c.bulk + Mk.Bld.tokB (l.drop k)≤Mk.Bld.tokB l)∧Hid ((l.drop k).foldl Mk.Bld.token c=l.foldl Mk.Bld.token ⟨.nil,[]⟩)∧Hid (∃ Kc,BldS wr w.heap.size (w.heap.size + 1) Kc c)∧Hid (Below w.heap.size w wr)) (fun i _=>l.length - (intOf i).toNat)
 case atStart=>exact⟨0,⟨.nil,[]⟩,Nat.zero_le _,rfl,Nat.zero_le _,by show _≤_;rw[hd0,List.drop_zero];omega,rfl,⟨_,HB0.out⟩,HAL.out⟩
 case round =>
  obtain⟨k,c,hk,rfl,hc8,HBK,HFO,HB,HBL⟩:=hrel
  by_cases hlt:k < l.length
  ·obtain⟨t,hkt⟩:∃ t,l[k]? = some t:=⟨_,List.getElem?_eq_getElem hlt⟩
   obtain⟨g,o,aot,capt,hao,hKg,hva,y0,y1,y2,y3⟩:=HAT.out k t hkt;subst hao;have hgl:=HK.out g hKg;rw[← HBL.out.cell (p:=⟨g,_,none⟩) hgl] at y0 y1 y2 y3;have hdr:l.drop k=t :: l.drop (k + 1):=by
    rw[List.drop_eq_getElem_cons hlt];rw[List.getElem?_eq_getElem hlt] at hkt;injection hkt with hkt;rw[hkt]
   have hbk:c.bulk + (2 + t.name.length + t.text.length + Mk.Fo.atB t.ats + Mk.Bld.tokB (l.drop (k + 1)))≤Mk.Bld.tokB l:=by have:=HBK.out;rwa [hdr,Mk.Bld.z6s] at this
   have hfo:(l.drop (k + 1)).foldl Mk.Bld.token (c.token t)=l.foldl Mk.Bld.token ⟨.nil,[]⟩:=by have:=HFO.out;rwa [hdr] at this
   have hcl:=c.j7r t hc8;have hcb:=c.q3n t;obtain⟨Kc,hB⟩:=HB.out;have hal:=(Below.refl wr.heap.size wr).alloc (Lr) (.cells #[.int .i64 t.kind,.string (st t.name),.slice aot t.ats.length capt,.string (st t.text)] 181);have hBL1:=HBL.out.trans (hal.mono HBL.out.size);have htk:=tr_token c (hB.below hal) (by omega) hc8 t (.slice aot t.ats.length capt) K (hva.frame (fun b q=>⟨q,hBL1.block b (HK.out b q)⟩)) HK.out (by omega);have HTK:=Ld htk;have HBL1:=Ld hBL1;have PB:=Ld (Blk.new wr 181 #[.int .i64 t.kind,.string (st t.name),.slice aot t.ats.length capt,.string (st t.text)]);have HFO2:=Ld hfo;clear htk hBL1 hal hB HB hdr hkt hva hfo HBL HFO HBK;go_upto_region 5 with fail;generalize (wr.alloc (.cells #[.int .i64 t.kind,.string (st t.name),.slice aot t.ats.length capt,.string (st t.text)] 181))=w1 at HTK HBL1 PB ⊢;have z0:w1.cell? ⟨wr.heap.size,0,none⟩=some (.int .i64 t.kind):=Blk.cell PB.out 0;have z1:w1.cell? ⟨wr.heap.size,1,none⟩=some (.string (st t.name)):=Blk.cell PB.out 1;have z2:w1.cell? ⟨wr.heap.size,2,none⟩=some (.slice aot t.ats.length capt):=Blk.cell PB.out 2;have z3:w1.cell? ⟨wr.heap.size,3,none⟩=some (.string (st t.text)):=Blk.cell PB.out 3;clear y0 y1 y2 y3;unfold tokV at HTK;go_wp2_with fail;refine HTK.out.mono ?_;rintro e w2 ⟨rfl,K2,hK2,hb2,ha2⟩;have HB2:Hid (∃ Kc,BldS w2 w.heap.size (w.heap.size + 1) Kc (c.token t)):=⟨K2,hb2⟩;have HBL2:Hid (Below w.heap.size w w2):=HBL1.out.trans (ha2.below HBL1.out.size (fun b q1 q2=>by have:=q2.1;omega));clear hb2 ha2 HTK z0 z1 z2 z3 hK2;go_wp2_with fail;go_roundw
   case rel=>exact⟨k + 1,c.token t,by omega,by go_num,hcl,by show _≤_;omega,HFO2.out,HB2.out,HBL2.out⟩
   case measure=>simp[intOf];omega
  ·have hke:k=l.length:=by omega
   subst hke;have hce:c=l.foldl Mk.Bld.token ⟨.nil,[]⟩:=by have:=HFO.out;rwa [List.drop_length] at this
   have hbu:Mk.build l=(c.close 0).root:=by rw[hce];rfl
   obtain⟨Kc,hB⟩:=HB.out;have hbk:=HBK.out;have HCL:=Ld (q5g c hB 0 (by omega) (by omega) (by omega));have HBU:=Ld hbu;clear hce hbu hB HB HBK hbk;go_wp2_with fail;refine HCL.out.mono ?_;rintro e w2 ⟨rfl,K2,hK2,⟨vn,vo,ns,xo,hb2⟩,ha2⟩;have hBL2:=HBL.out.trans (ha2.below HBL.out.size (fun b q1 q2=>by have:=q2.1;omega));have hz:=(c.close 0).q9k (c.q2r);rw[hz] at hb2;obtain⟨gn,capn,v1,xs,hvn,hcn,hns,hof,hfr⟩:=(show BldV w2 _ _ K2 ([]++[(c.close 0).root]) _ vn vo ns xo from hb2).last;subst hvn;obtain⟨ao1,cap1,hu⟩:=Z9 hof.own;subst hu;have c0:w2.cell? ⟨w.heap.size + 1,0,none⟩=some (.slice (some ⟨gn,0,none⟩) 1 capn):=Blk.cell hb2.blk 0;have hcn:w2.cell? ⟨gn,0,none⟩=some (.slice ao1 (c.close 0).root.len cap1):=hcn;have HE:Hid (FoV w2 (fun g=>w.heap.size≤g∧g < w2.heap.size) (.slice ao1 (c.close 0).root.len cap1) (Mk.build l)):=by
    show FoV _ _ _ _;rw[HBU.out];exact hof.foV (fun b q=>hb2.kle b q) (fun g e=>hof.own.lt g e)
   have HBL2:=Ld hBL2;clear hb2 ha2 hK2 hz hns hof hfr HCL hBL2;go_wp2_with fail;go_ret;exact⟨_,rfl,HE.out,HBL2.out⟩
end Go.Proofs.YtjonkbdldebkiaaGreatDoor
