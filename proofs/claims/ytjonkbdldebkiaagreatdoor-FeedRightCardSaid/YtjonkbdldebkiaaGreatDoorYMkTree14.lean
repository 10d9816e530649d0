/- Contract of the program's Of: the tree of tokens. Condition: at most 549755813000 tokens, attributes and letters together. -/
import Derived.Test.YtjonkbdldebkiaaGreatDoorYMkTree10
set_option linter.unusedVariables false
set_option linter.unusedSimpArgs false
set_option maxHeartbeats 8000000
set_option maxRecDepth 100000
namespace Mk
namespace Bld
theorem q0m:∀ (n:Nat) (b:Bld),(ops (z2c n b)).length=(ops b).length - n
 | 0,_=>rfl
 | n + 1,b=>by
  have h1:=q0m n b.pop;have h2:=q67 b;show (ops (z2c n b.pop)).length=_;omega
theorem j2q:∀ l:List Tok,2 * l.length≤tokB l
 | []=>Nat.zero_le _
 | t :: r=>by
  have:=j2q r;rw[z5j,List.length_cons];omega
theorem q44 (b:Bld):ops (b.close 0)=[]:=by
 have h:=q0m (b.open_.length - 0) b;have h2:=z6d b;exact List.eq_nil_of_length_eq_zero (by show (ops (z2c (b.open_.length - 0) b)).length=0;omega)
theorem j1t (b:Bld) (h:ops b=[]):fos b=[b.root]:=by
 have h2:=z6d b;have:b.open_=[]:=List.eq_nil_of_length_eq_zero (by rw[← h2,h];rfl);simp[fos,this]
end Bld
end Mk
namespace Go.Proofs.YtjonkbdldebkiaaGreatDoor
open Go.RowKit
theorem z0v.at_ {w:World} {K:Nat→Prop}:∀ {l:List Mk.Tok} {xs:List Value},z0v w K l xs→∀ (i:Nat) (t:Mk.Tok),l[i]? = some t→∃ va,AtsV w K va t.ats∧xs[i * 4]? = some (.int .i64 t.kind)∧xs[i * 4 + 1]? = some (.string (st t.name))∧xs[i * 4 + 2]? = some va∧xs[i * 4 + 3]? = some (.string (st t.text))
 | [],_,_,i,t,hi=>by simp at hi
 | o :: r,_,⟨vb,ys,h1,h2,h3⟩,0,t,hi=>by
  simp at hi;subst hi;rw[h1];exact⟨vb,h2,rfl,rfl,rfl,rfl⟩
 | o :: r,_,⟨vb,ys,h1,h2,h3⟩,i + 1,t,hi=>by
  obtain⟨va,e0,e1,e2,e3,e4⟩:=z0v.at_ h3 i t (by simpa using hi)
  rw[h1];refine⟨va,e0,?_,?_,?_,?_⟩
  ·rw[show (i + 1) * 4=i * 4 + 4 by omega,List.getElem?_append_right (by simp)];simpa using e1
  ·rw[show (i + 1) * 4 + 1=i * 4 + 1 + 4 by omega,List.getElem?_append_right (by simp)];simpa using e2
  ·rw[show (i + 1) * 4 + 2=i * 4 + 2 + 4 by omega,List.getElem?_append_right (by simp)];simpa using e3
  ·rw[show (i + 1) * 4 + 3=i * 4 + 3 + 4 by omega,List.getElem?_append_right (by simp)];simpa using e4
theorem z9o.at_ {w:World} {K:Nat→Prop} {v:Value} {l:List Mk.Tok} (h:z9o w K v l):∃ ao cap,v=.slice ao l.length cap∧l.length≤maxLen∧∀ (k:Nat) (t:Mk.Tok),l[k]? = some t→∃ g o aot capt,ao=some ⟨g,o,none⟩∧K g∧AtsV w K (.slice aot t.ats.length capt) t.ats∧w.cell? ⟨g,o + k * 4,none⟩=some (.int .i64 t.kind)∧w.cell? ⟨g,o + k * 4 + 1,none⟩=some (.string (st t.name))∧w.cell? ⟨g,o + k * 4 + 2,none⟩=some (.slice aot t.ats.length capt)∧w.cell? ⟨g,o + k * 4 + 3,none⟩=some (.string (st t.text)):=by
 obtain⟨ao,cap,xs,h1,h2,h3,h4⟩:=h;refine⟨ao,cap,h1,h4,fun k t hk=>?_⟩;obtain⟨va,hva,x0,x1,x2,x3⟩:=h3.at_ k t hk
 obtain⟨aot,capt,hv1,_⟩:=id hva;subst hv1
 rcases h2 with h2 | ⟨g,o,e1,e2,e3⟩
 ·rw[h2] at x0;simp at x0
 ·exact⟨g,o,aot,capt,e1,e2,hva,e3 _ _ x0,e3 _ _ x1,e3 _ _ x2,e3 _ _ x3⟩
theorem bld_new (w:World):BldS ((w.alloc (.cells #[.slice none 0 0] 51)).alloc (.cells #[.slice (some ⟨w.heap.size,0,none⟩) 1 1,.slice none 0 0] 186)) w.heap.size (w.heap.size + 1) (fun _=>False) ⟨.nil,[]⟩:=by
 have hb:Blk (w.alloc (.cells #[.slice none 0 0] 51)) w.heap.size 51 #[.slice none 0 0]:=Blk.new w _ _;have hb2:=Blk.alloc hb (.cells #[.slice (some ⟨w.heap.size,0,none⟩) 1 1,.slice none 0 0] 186);have hp:=Blk.new (w.alloc (.cells #[.slice none 0 0] 51)) 186 #[.slice (some ⟨w.heap.size,0,none⟩) 1 1,.slice none 0 0];rw[World.size_alloc] at hp;refine⟨.slice (some ⟨w.heap.size,0,none⟩) 1 1,.slice none 0 0,[.slice none 0 0],[],hp,Nat.le_succ _,id,(fun _ (q:False)=>q.elim),⟨rfl,.inr ⟨w.heap.size,1,_,rfl,Nat.le_refl _,hb2,Nat.le_refl _,by decide,rfl,rfl⟩⟩,World.ownsRow_nil _ _ _ _,rfl,?_,?_,?_,?_⟩
 ·intro i f v h1 h2
  cases i with
  | zero =>
   injection h1 with h1;injection h2 with h2;subst h1;subst h2;exact⟨[],⟨World.ownsRow_nil _ _ _ _,rfl,(fun g e=>by cases e),(fun b (q:False)=>q.elim)⟩⟩
  | succ i=>simp[Mk.Bld.fos] at h1
 ·intro g e
  injection e with e;subst e;exact⟨Nat.ne_of_lt (Nat.lt_succ_self _),id⟩
 ·intro g e;cases e
 ·intro i v g h1 h2
  cases i with
  | zero=>injection h1 with h1;subst h1;cases h2
  | succ i=>simp at h1
theorem tr_Of (l:List Mk.Tok) (v:Value) (K:Nat→Prop) (w:World) (hv:z9o w K v l) (hK:∀ b,K b→b < w.heap.size) (hl:Mk.Bld.tokB l≤549755813000) :
  Calls Tryz.prog 79 #[v] w fun e w'=>∃ v',e=.returned v'∧FoV w' (fun g=>w.heap.size≤g∧g < w'.heap.size) v' (Mk.build l)∧Below w.heap.size w w':=by
 obtain⟨ao,cap,hv1,hlm,hat⟩:=hv.at_
 subst hv1;have hll:=Mk.Bld.j2q l;have HAT:=Lib.hid hat
 have HK:=Lib.hid hK;have hal:=(((Below.refl w.heap.size w).alloc (Nat.le_refl _) (.cells #[.slice none 0 0] 51)).alloc (by simp) (.cells #[.slice (some ⟨w.heap.size,0,none⟩) 1 1,.slice none 0 0] 186));have HB0:=Lib.hid (bld_new w);have HAL:=Lib.hid hal;have hd0:Mk.Bld.bulk ⟨.nil,[]⟩=0:=rfl;clear hv hat hK hal;go_enter Tryz.func79,Tryz.ntmps79;go_wp2_with fail
 go_loopw [11] (fun i wr=>∃ (k:Nat) (c:Mk.Bld),k≤l.length∧i=.int .i64 k∧c.ops.length≤8∧Hid (c.bulk + Mk.Bld.tokB (l.drop k)≤Mk.Bld.tokB l)∧Hid ((l.drop k).foldl Mk.Bld.token c=l.foldl Mk.Bld.token ⟨.nil,[]⟩)∧Hid (∃ Kc,BldS wr w.heap.size (w.heap.size + 1) Kc c)∧Hid (Below w.heap.size w wr)) (fun i _=>l.length - (intOf i).toNat)
 case atStart=>exact⟨0,⟨.nil,[]⟩,Nat.zero_le _,rfl,Nat.zero_le _,by show _≤_;rw[hd0,List.drop_zero];omega,rfl,⟨_,HB0.out⟩,HAL.out⟩
 case round =>
  obtain⟨k,c,hk,rfl,hc8,HBK,HFO,HB,HBL⟩:=hrel
  by_cases hlt:k < l.length
  ·obtain⟨t,hkt⟩:∃ t,l[k]? = some t:=⟨_,List.getElem?_eq_getElem hlt⟩
   obtain⟨g,o,aot,capt,hao,hKg,hva,y0,y1,y2,y3⟩:=HAT.out k t hkt;subst hao;have hgl:=HK.out g hKg;rw[← HBL.out.cell (p:=⟨g,_,none⟩) hgl] at y0 y1 y2 y3;have hdr:l.drop k=t :: l.drop (k + 1):=by
    rw[List.drop_eq_getElem_cons hlt];rw[List.getElem?_eq_getElem hlt] at hkt;injection hkt with hkt;rw[hkt]
   have hbk:c.bulk + (2 + t.name.length + t.text.length + Mk.Fo.atB t.ats + Mk.Bld.tokB (l.drop (k + 1)))≤Mk.Bld.tokB l:=by have:=HBK.out;rwa [hdr,Mk.Bld.z5j] at this
   have hfo:(l.drop (k + 1)).foldl Mk.Bld.token (c.token t)=l.foldl Mk.Bld.token ⟨.nil,[]⟩:=by have:=HFO.out;rwa [hdr] at this
   have hcl:=c.y0n t hc8;have hcb:=c.q4w t;obtain⟨Kc,hB⟩:=HB.out;have hal:=(Below.refl wr.heap.size wr).alloc (Nat.le_refl _) (.cells #[.int .i64 t.kind,.string (st t.name),.slice aot t.ats.length capt,.string (st t.text)] 181);have hBL1:=HBL.out.trans (hal.mono HBL.out.size);have htk:=tr_token c (hB.below hal) (by omega) hc8 t (.slice aot t.ats.length capt) K (hva.frame (fun b q=>⟨q,hBL1.block b (HK.out b q)⟩)) HK.out (by omega);have HTK:=Lib.hid htk;have HBL1:=Lib.hid hBL1;have PB:=Lib.hid (Blk.new wr 181 #[.int .i64 t.kind,.string (st t.name),.slice aot t.ats.length capt,.string (st t.text)]);have HFO2:=Lib.hid hfo;clear htk hBL1 hal hB HB hdr hkt hva hfo HBL HFO HBK;go_upto_region 5 with fail;generalize (wr.alloc (.cells #[.int .i64 t.kind,.string (st t.name),.slice aot t.ats.length capt,.string (st t.text)] 181))=w1 at HTK HBL1 PB ⊢;have z0:w1.cell? ⟨wr.heap.size,0,none⟩=some (.int .i64 t.kind):=Blk.cell PB.out 0;have z1:w1.cell? ⟨wr.heap.size,1,none⟩=some (.string (st t.name)):=Blk.cell PB.out 1;have z2:w1.cell? ⟨wr.heap.size,2,none⟩=some (.slice aot t.ats.length capt):=Blk.cell PB.out 2;have z3:w1.cell? ⟨wr.heap.size,3,none⟩=some (.string (st t.text)):=Blk.cell PB.out 3;clear y0 y1 y2 y3;unfold tokV at HTK;go_wp2_with fail;refine HTK.out.mono ?_;rintro e w2 ⟨rfl,K2,hK2,hb2,ha2⟩;have HB2:Hid (∃ Kc,BldS w2 w.heap.size (w.heap.size + 1) Kc (c.token t)):=⟨K2,hb2⟩;have HBL2:Hid (Below w.heap.size w w2):=HBL1.out.trans (ha2.below HBL1.out.size (fun b q1 q2=>by have:=q2.1;omega));clear hb2 ha2 HTK z0 z1 z2 z3 hK2;go_wp2_with fail;go_roundw
   case rel=>exact⟨k + 1,c.token t,by omega,by go_num,hcl,by show _≤_;omega,HFO2.out,HB2.out,HBL2.out⟩
   case measure=>simp[intOf];omega
  ·have hke:k=l.length:=by omega
   subst hke;have hce:c=l.foldl Mk.Bld.token ⟨.nil,[]⟩:=by have:=HFO.out;rwa [List.drop_length] at this
   have hbu:Mk.build l=(c.close 0).root:=by rw[hce];rfl
   obtain⟨Kc,hB⟩:=HB.out;have hbk:=HBK.out;have HCL:=Lib.hid (q6r c hB 0 (by omega) (by omega) (by omega));have HBU:=Lib.hid hbu;clear hce hbu hB HB HBK hbk;go_wp2_with fail;refine HCL.out.mono ?_;rintro e w2 ⟨rfl,K2,hK2,⟨vn,vo,ns,xo,hb2⟩,ha2⟩;have hBL2:=HBL.out.trans (ha2.below HBL.out.size (fun b q1 q2=>by have:=q2.1;omega));have hz:=(c.close 0).j1t (c.q44);rw[hz] at hb2;obtain⟨gn,capn,v1,xs,hvn,hcn,hns,hof,hfr⟩:=(show BldV w2 _ _ K2 ([]++[(c.close 0).root]) _ vn vo ns xo from hb2).last;subst hvn;obtain⟨ao1,cap1,hu⟩:=Y1 hof.own;subst hu;have c0:w2.cell? ⟨w.heap.size + 1,0,none⟩=some (.slice (some ⟨gn,0,none⟩) 1 capn):=Blk.cell hb2.blk 0;have hcn:w2.cell? ⟨gn,0,none⟩=some (.slice ao1 (c.close 0).root.len cap1):=hcn;have HE:Hid (FoV w2 (fun g=>w.heap.size≤g∧g < w2.heap.size) (.slice ao1 (c.close 0).root.len cap1) (Mk.build l)):=by
    show FoV _ _ _ _;rw[HBU.out];exact hof.foV (fun b q=>hb2.kle b q) (fun g e=>hof.own.lt g e)
   have HBL2:=Lib.hid hBL2;clear hb2 ha2 hK2 hz hns hof hfr HCL hBL2;go_wp2_with fail;go_ret;exact⟨_,rfl,HE.out,HBL2.out⟩
end Go.Proofs.YtjonkbdldebkiaaGreatDoor
