/- Contract of the token reader's method tag. Condition: a text of at most 1048576 bytes. -/
import Derived.Test.YtjonkbdldebkiaaGreatDoorVWsA
import Derived.Deep.RegionLaw
set_option linter.unusedVariables false
set_option linter.unusedSimpArgs false
set_option maxHeartbeats 4000000
set_option maxRecDepth 100000
namespace Go.Proofs.YtjonkbdldebkiaaGreatDoor
open Go.Proofs.Tryz Go.RowKit
theorem z0l {P:Program} {w:World} {ops:Array Oper} {o:Oper} {a:Act} {K:Act→World→Prop} {Q:Exit→Act→World→Prop} {E:Prop} (hgd:o.guard=none) (s x:Operand) (t:TypeId)
  (ho:o.op=.call { callee:=.builtin .append,args:=#[s,x],argTypes:=#[t,t] })
  (base:Nat) (e:TypeId) (i:TypeInfo) (z:Value) (size bytes:Nat) (ht:P.underlying t=some (.slice e)) (hi:P.info? e=some i) (hz:i.zero=some z)
  (hsize:i.size=size) (hby:i.bytes=bytes) (hzs:z.cells.size=size) (hsz:0 < size)
  (v:Value) (n:Nat) (xs:List Value) (hs:a.eval s=v) (hown:w.ownsRow base e size v n xs)
  (ad:Addr) (m c:Nat) (news:List Value) (hx:a.eval x=.slice (some ad) m c) (hl:news.length=m * size) (hnews:∀ j u,news[j]? = some u→w.cell? (ad.add j)=some u) (h1:∀ u ∈ news,u.oneCell'=true)
  (hm0:0 < m) (h63:n + m≤maxLen) (hbytes:(n + m) * bytes≤140737488355328) (hbase:base≤w.heap.size)
  (h:∀ v' w',w'.ownsRow base e size v' (n + m) (xs++news)→w.grownBy w' v.ownBlock→(v'.ownBlock=v.ownBlock∨v'.ownBlock=some w.heap.size)→K (a.put o.dst v') w') :
  if Region.wanted o (yielded ops a.tmps)=true then Oper.wp P o a w K Q else E:=by
 have hw:Region.wanted o (yielded ops a.tmps)=true:=by simp[Region.wanted,hgd]
 rw[if_pos hw];obtain⟨v',w',hr,h2,h3,_⟩:=run_append_own (P:=P) w base t o.type e i z size bytes ht hi hz hsize hby hzs hsz v n xs hown ad m c news hl hnews h1 h63 hbytes hbase;have h5:=z5x base t o.type e i z size bytes ht hi hz hsize hby v n xs hown ad m c news hl hnews h1 hm0 h63 hbytes hr;have hfin:=h v' w' h2 h3 h5;unfold Oper.wp execOp;simp only [ho,resolve,invoke,builtin,Sem.run_bind,Sem.run_pure,Result.andThen_ok,List.map_toArray,List.map_cons,List.map_nil,hs,hx,hr];exact hfin
theorem own_KT {w:World} {B C n:Nat} {v:Value} {xs:List Value} (h:w.ownsRow C 56 2 v n xs) (hC:B≤C):∀ g,v.ownBlock=some g→KT w B g:=by
 intro g hg
 rcases h.2 with ⟨hv,_⟩ | ⟨g',cap,cur,hv,hb,hh,_⟩
 ·rw[hv] at hg;cases hg
 ·rw[hv] at hg
  injection hg with hg;have hg:g'=g:=hg;subst hg;exact⟨Nat.le_trans hC hb,_,_,hh⟩
theorem RdO.frame {w w':World} {B R:Nat} {s:ByteArray} {k:Nat} {tx:List UInt8} {ts:List Mk.Tok} {ov:Value} {xs:List Value} (h:RdO w B R s k tx ts ov xs) (hb:∀ b,b < w.heap.size→b=R∨ov.ownBlock=some b∨KT w B b→w'.heap[b]? = w.heap[b]?):RdO w' B R s k tx ts ov xs:=by
 refine⟨h.hB,h.hBR,(hb R h.rlt (.inl rfl)).trans h.rd,⟨h.own.1,h.own.2.imp id ?_⟩,h.cells.frame fun b hk=>hk.keep (hb b hk.lt (.inr (.inr hk))),h.ne⟩;rintro ⟨g,cap,cur,h1,h2,h3,h4⟩;have e:ov.ownBlock=some g:=by rw[h1];rfl
 exact⟨g,cap,cur,h1,h2,(hb g (h.own.lt g e).2 (.inr (.inl e))).trans h3,h4⟩
theorem RdO.far {w:World} {B R:Nat} {s:ByteArray} {k:Nat} {tx:List UInt8} {ts:List Mk.Tok} {ov:Value} {xs:List Value} (h:RdO w B R s k tx ts ov xs) {P:Nat} {cs:Array Value} (hP:Blk w P 181 cs) (hR:P ≠ R) (ho:ov.ownBlock ≠ some P) (i:Nat) (v:Value):RdO (w.setCell ⟨P,i,none⟩ v) B R s k tx ts ov xs:=by
 refine h.frame fun b _ hb=>Below.heap_setCell w ⟨P,i,none⟩ v b ?_
 rintro rfl
 rcases hb with e | e | e
 ·exact hR e
 ·exact ho e
 ·exact e.ne ⟨_,hP⟩ (by decide) rfl
theorem KT.far {w:World} {B P:Nat} {cs:Array Value} (hP:Blk w P 181 cs) (i:Nat) (v:Value) (b:Nat) (hb:KT w B b):KT (w.setCell ⟨P,i,none⟩ v) B b∧(w.setCell ⟨P,i,none⟩ v).heap[b]? = w.heap[b]? :=
 hb.keep (Below.heap_setCell w ⟨P,i,none⟩ v b (fun e=>hb.ne ⟨_,hP⟩ (by decide) e))
theorem RdO.keepAp {w w':World} {B R:Nat} {s:ByteArray} {k:Nat} {tx:List UInt8} {ts:List Mk.Tok} {ov:Value} {xs:List Value} (h:RdO w B R s k tx ts ov xs) (ha:Ap (fun b=>b=R∨ov.ownBlock=some b) w w') (b:Nat) (hb:KT w B b):KT w' B b∧w'.heap[b]? = w.heap[b]?:=by
 refine hb.keep (ha.block b hb.lt ?_);rintro (e | e)
 ·exact hb.ne ⟨_,h.rd⟩ (by decide) e
 ·rcases h.own.2 with ⟨hv,_⟩ | ⟨g,cap,cur,hv,_,hh,_⟩
  ·rw[hv] at e;cases e
  ·rw[hv] at e
   injection e with e;exact hb.ne ⟨_,hh⟩ (by decide) e.symm
theorem z8i (tx:List UInt8) (ts:List Mk.Tok):(Mk.flush tx ts).length≤ts.length + 1:=by
 show (if (Mk.take tx).1=[] then ts else ts++[⟨1,[],[],(Mk.take tx).1⟩]).length≤ts.length + 1
 split
 ·omega
 ·rw[List.length_append];simp
def q99 (H:Mk.Here) (e:Ending) (B R:Nat) (s:ByteArray) (k:Nat) (tx:List UInt8) (ts:List Mk.Tok) (w':World):Prop :=
 match H with
 | .text=>False
 | .stop=>e=Gave∧∃ j,RdS w' B R s j tx ts
 | .gone r=>e=.returned (.tuple #[])∧∃ j,j≤s.size∧k < j∧r=s.data.toList.drop j∧RdS w' B R s j tx ts
 | .tag t r=>e=.returned (.tuple #[])∧∃ j,j≤s.size∧k < j∧r=s.data.toList.drop j∧RdS w' B R s j [] (Mk.flush tx ts++[t])
section
variable {w : World} {B R : Nat} {s : ByteArray} {k : Nat} {tx : List UInt8} {ts : List Mk.Tok}
theorem q8q (hg:Gl w) (h:RdS w B R s k tx ts) (hk:k + 1≤s.size) (hs:s.size≤1048576) (htx:tx.length≤1048576) (hts:ts.length≤1048576) :
  Calls prog 236 #[.pointer (some ⟨R,0,none⟩),.int .i64 2,.int .i64 1] w fun e w'=>q99 (Mk.z6n (s.data.toList.drop (k + 1))) e B R s k tx ts w'∧Fr B w w':=by
 obtain⟨ov,xs,h⟩:=h;have c1:=h.rd.c1;have f1:=h.rd.fz 1;have hBl:=h.blt;have hR2:4 < R:=Nat.le_trans h.hB h.hBR;have H:=Ld h;clear h;go_enter func236,ntmps236;go_wp2_with fail;have H1:Hid (RdO (w.setCell ⟨R,1,none⟩ (.int .i64 ((k:Int) + 1))) B R s (k + 1) tx ts ov xs):=by show RdO _ _ _ _ _ _ _ _ _;have:=H.out.setAt (k + 1);simpa using this
 have L1:Hid (Fr B w (w.setCell ⟨R,1,none⟩ (.int .i64 ((k:Int) + 1)))):=Fr.own H.out 1 _;generalize (w.setCell ⟨R,1,none⟩ (.int .i64 ((k:Int) + 1)))=w1 at H1 L1 ⊢;have e1:=adv s (k + 1) Mk.V9;have l1:=z6d s (k + 1) hk Mk.V9;have hp:=z4o 270 #[] Mk.V9 j5m H1.out.rd hk hs (fun w' _=>q5p w');obtain⟨j1,hj1⟩:∃ j1,j1=k + 1 + ((s.data.toList.drop (k + 1)).takeWhile Mk.V9).length:=⟨_,rfl⟩;rw[← hj1] at e1 l1 hp;have hkj:k + 1≤j1:=by omega
 have HO:Hid (Mk.z6n (s.data.toList.drop (k + 1))=(match Mk.z5i (s.data.toList.drop j1) with | none=>.stop | some (l,rest)=>if Mk.isName (Mg.fold ((s.data.toList.drop (k + 1)).takeWhile Mk.V9)) then .tag ⟨2,Mg.fold ((s.data.toList.drop (k + 1)).takeWhile Mk.V9),l,[]⟩ rest else .gone rest)):=by
  show _=_;rw[e1];rfl
 have hnl:((s.data.toList.drop (k + 1)).takeWhile Mk.V9).length≤1048576:=by
  have:=Mk.z2r Mk.V9 (s.data.toList.drop (k + 1));rw[List.length_drop,bs_len] at this;omega
 generalize ((s.data.toList.drop (k + 1)).takeWhile Mk.V9)=raw at hp HO hnl;clear e1 hj1 c1 f1;refine hp.mono ?_;rintro e w2 ⟨rfl,RD2,MV2⟩;have H2:=Ld (H1.out.next MV2.ap RD2);have L2:=Ld (L1.out.trans (Fr.of_ap H1.out MV2.ap));clear hp RD2 MV2 H1 L1 H;go_wp2_with fail;refine(q1b (st raw) _ (by rw[Z4];omega)).mono ?_;rintro e w3 ⟨rfl,hb3⟩;rw[z1o];have H3:=Ld (H2.out.below hb3);have L3:=Ld (L2.out.trans (Fr.of_below H2.out hb3));have hnm:(Mg.fold raw).length≤1048576:=by rw[Mg.fold,List.length_map];exact hnl
 generalize Mg.fold raw=nm at HO hnm ⊢;clear hb3 H2 L2;go_upto_if 21 with fail;have hb4:=(Below.refl _ w3).alloc (Lr) (.cells #[.int .i64 2,.string (st nm),.slice none 0 0,.string ⟨#[]⟩] 181);have PB4:=Ld (Blk.new w3 181 #[.int .i64 2,.string (st nm),.slice none 0 0,.string ⟨#[]⟩]);have H4:=Ld (H3.out.below hb4);have L4:=Ld (L3.out.trans (Fr.of_below H3.out hb4));have HPR:=Ld (show w3.heap.size ≠ R by have:=H3.out.rlt;omega);have HPO:=Ld (show ov.ownBlock ≠ some w3.heap.size from fun e=>by have:=(H3.out.own.lt _ e).2;omega);generalize w3.alloc (.cells #[.int .i64 2,.string (st nm),.slice none 0 0,.string ⟨#[]⟩] 181)=w4 at PB4 H4 L4 ⊢;have HBP:=Ld H3.out.blt;generalize w3.heap.size=P at PB4 HPR HPO HBP ⊢;have hB1:4 < B:=H4.out.hB;have hg4:=hg.below L4.out.below hB1;have HAT:=Ld (rd_attrs hg4 hR2 H4.out.rd l1 hs);clear hb4 H3 L3 hg4;go_wp2_with fail;refine HAT.out.mono ?_;rintro e w5 (⟨hno,rfl,⟨jj,RD5⟩,AP5⟩ | ⟨l,r,j2,v,hso,rfl,ow5,hj2,hjl,hll,hr,RD5,AP5⟩)
 ·rw[hno] at HO
  have H5:=Ld (H4.out.next AP5 RD5);have L5:=Ld (L4.out.trans (Fr.of_ap H4.out AP5));clear HAT RD5 AP5 hno;go_wp2_with fail;exact⟨rfl,by rw[HO.out];exact⟨rfl,_,_,_,H5.out⟩,L5.out⟩
 ·rw[hso] at HO
  simp only at HO;obtain⟨ao,cap,rfl⟩:=Z9 ow5;have H5:=Ld (H4.out.next AP5 RD5);have L5:=Ld (L4.out.trans (Fr.of_ap H4.out AP5));have PB5:=Ld (Blk.ap PB4.out AP5 HPR.out);have AT5:=Ld (AtsV.of_own (K:=KT w5 B) ow5 (own_KT ow5 H4.out.blt));have c2:w5.cell? ⟨P,2,none⟩=some (.slice none 0 0):=Blk.cell PB5.out 2;have f2:=Blk.frozen PB5.out 2;have HR:=Ld hr;clear HAT RD5 AP5 hso ow5 H4 L4 PB4 hr;go_upto_region 5 with fail;have H6:=Ld (H5.out.far PB5.out HPR.out HPO.out 2 (.slice ao l.length cap));have L6:=Ld (L5.out.trans (Fr.tok PB5.out HBP.out 2 (.slice ao l.length cap)));have PB6:=Ld (Blk.set_ PB5.out 2 (.slice ao l.length cap));have AT6:=Ld (AT5.out.frame (KT.far PB5.out 2 (.slice ao l.length cap)));generalize w5.setCell ⟨P,2,none⟩ (.slice ao l.length cap)=w6 at H6 L6 PB6 AT6 ⊢;clear H5 L5 PB5 AT5 c2 f2;have c1:w6.cell? ⟨P,1,none⟩=some (.string (st nm)):=Blk.cell PB6.out 1;have hN:=q8e (st nm) w6 (by rw[Z4];omega);rw[z1o] at hN
  cases hin:Mk.isName nm with
  | false =>
   rw[hin] at hN HO;have HN:=Ld hN;clear hN hin;go_wp2_with fail;refine HN.out.mono ?_;rintro e w7 ⟨rfl,rfl⟩;go_wp2_with fail;go_end0;exact⟨by rw[HO.out];exact⟨rfl,j2,hj2,by omega,HR.out,_,_,H6.out⟩,L6.out⟩
  | true =>
   rw[hin] at hN HO;have HO2:Hid (Mk.z6n (s.data.toList.drop (k + 1))=.tag ⟨2,nm,l,[]⟩ r):=by show _=_;rw[HO.out];simp
   have HN:=Ld hN;clear hN hin HO;go_wp2_with fail;refine HN.out.mono ?_;rintro e w7 ⟨rfl,rfl⟩;have hg7:=hg.below L6.out.below hB1;have HFL:=Ld (q52 hg7 H6.out htx hts);clear HN hg7 c1;go_wp2_with fail;refine HFL.out.mono ?_;rintro e w8 ⟨rfl,⟨ov8,xs8,h8⟩,hb8,ha8⟩;have H8:=Ld h8;have L8:=Ld (L6.out.trans (Fr.of_push H6.out hb8 ha8));have PB8:=Ld (Blk.ap PB6.out ha8 (fun q=>q.elim HPR.out HPO.out));have AT8:=Ld (AT6.out.frame (H6.out.keepAp ha8));clear HFL h8 hb8 ha8 H6 L6 PB6 AT6;have hfl:=z8i tx ts;go_upto_region 7 with fail;have d3:=H8.out.rd.c3;have p0:w8.cell? ⟨P,0,none⟩=some (.int .i64 2):=Blk.cell PB8.out 0;have p1:w8.cell? ⟨P,1,none⟩=some (.string (st nm)):=Blk.cell PB8.out 1;have p2:w8.cell? ⟨P,2,none⟩=some (.slice ao l.length cap):=Blk.cell PB8.out 2;have p3:w8.cell? ⟨P,3,none⟩=some (.string ⟨#[]⟩):=Blk.cell PB8.out 3;obtain⟨i0,hi,hz0,hz1,hz2⟩:=info_parts Tryz.infoTok;have hbl:=H8.out.blt;have ow10:=z0f H8.out.own (((Ap.refl (fun _=>False) w8).drew).alloc (.cells #[.int .i64 2,.string (st nm),.slice ao l.length cap,.string ⟨#[]⟩] 181)) (fun _ _ q=>q);have hb11:Below w8.heap.size w8 (w8.drew.alloc (.cells #[.int .i64 2,.string (st nm),.slice ao l.length cap,.string ⟨#[]⟩] 181)):=((Below.refl _ w8).drew).alloc (Lr) _;have OW10:=Ld ow10;have HB11:=Ld hb11;clear ow10 hb11;have d3a:(w8.alloc (.cells #[.int .i64 2,.string (st nm),.slice ao l.length cap,.string ⟨#[]⟩] 181)).cell? ⟨R,3,none⟩=some ov8:=Blk.cell (Blk.alloc H8.out.rd _) 3
   go_region_law (refine z0l rfl (.tmp 36) (.tmp 38) 63 rfl B 181 i0 (.agg #[.int .i64 0,.string ⟨#[]⟩,.slice none 0 0,.string ⟨#[]⟩]) 4 64 underlying63 hi hz0 hz1 hz2 rfl (by decide) ov8 (Mk.flush tx ts).length xs8 (by simp[Act.eval,Act.put]) OW10.out ⟨w8.heap.size,0,none⟩ 1 1 [.int .i64 2,.string (st nm),.slice ao l.length cap,.string ⟨#[]⟩] (by simp[Act.eval,Act.put]) rfl (z0h w8.drew _ _) (by intro u hu;simp at hu;rcases hu with rfl | rfl | rfl | rfl <;> rfl) (by decide) (by unfold maxLen;omega) (by omega) (by simp;omega) ?_;intro v' w10 hown' hgrow hfresh;have hpush:=Ld (H8.out.push (t:=⟨2,nm,l,[]⟩) (va:=.slice ao l.length cap) AT8.out HB11.out hown' hgrow (hfresh.imp id (fun e=>by rw[e];simp)));have hR:Rd w10 R s j2 [] ov8:=(hgrow.block R (Nat.lt_of_lt_of_le H8.out.rlt HB11.out.size) (fun e=>H8.out.ne e.symm)).trans ((HB11.out.block R H8.out.rlt).trans H8.out.rd);have f3':w10.frozen? ⟨R,3,none⟩=false:=hR.fz 3;have c3':w10.cell? ⟨R,3,none⟩=some ov8:=hR.c3;obtain⟨ao2,cap2,hv⟩:=Z9 hown';rw[hv] at hpush;clear hown' hgrow hfresh hR;rw[hv])
   all_goals
    go_wp2_with fail;go_end0;exact⟨by rw[HO2.out];exact⟨rfl,j2,hj2,by omega,HR.out,hpush.out.1⟩,L8.out.trans (Fr.of_push H8.out hpush.out.2.1 hpush.out.2.2)⟩
theorem q6v (hg:Gl w) (h:RdS w B R s k tx ts) (hk:k + 2≤s.size) (hs:s.size≤1048576) (htx:tx.length≤1048576) (hts:ts.length≤1048576) :
  Calls prog 236 #[.pointer (some ⟨R,0,none⟩),.int .i64 3,.int .i64 2] w fun e w'=>q99 (Mk.z3q (s.data.toList.drop (k + 2))) e B R s k tx ts w'∧Fr B w w':=by
 obtain⟨ov,xs,h⟩:=h;have c1:=h.rd.c1;have f1:=h.rd.fz 1;have hBl:=h.blt;have hR2:4 < R:=Nat.le_trans h.hB h.hBR;have H:=Ld h;clear h;go_enter func236,ntmps236;go_wp2_with fail;have H1:Hid (RdO (w.setCell ⟨R,1,none⟩ (.int .i64 ((k:Int) + 2))) B R s (k + 2) tx ts ov xs):=by show RdO _ _ _ _ _ _ _ _ _;have:=H.out.setAt (k + 2);simpa using this
 have L1:Hid (Fr B w (w.setCell ⟨R,1,none⟩ (.int .i64 ((k:Int) + 2)))):=Fr.own H.out 1 _;generalize (w.setCell ⟨R,1,none⟩ (.int .i64 ((k:Int) + 2)))=w1 at H1 L1 ⊢;have e1:=adv s (k + 2) Mk.V9;have l1:=z6d s (k + 2) hk Mk.V9;have hp:=z4o 270 #[] Mk.V9 j5m H1.out.rd hk hs (fun w' _=>q5p w');obtain⟨j1,hj1⟩:∃ j1,j1=k + 2 + ((s.data.toList.drop (k + 2)).takeWhile Mk.V9).length:=⟨_,rfl⟩;rw[← hj1] at e1 l1 hp;have hkj:k + 2≤j1:=by omega
 have HO:Hid (Mk.z3q (s.data.toList.drop (k + 2))=(match Mk.behind [62] (s.data.toList.drop j1) with | none=>.stop | some rest=>if Mk.isName (Mg.fold ((s.data.toList.drop (k + 2)).takeWhile Mk.V9)) then .tag ⟨3,Mg.fold ((s.data.toList.drop (k + 2)).takeWhile Mk.V9),[],[]⟩ rest else .gone rest)):=by
  show _=_;rw[e1];rfl
 have hnl:((s.data.toList.drop (k + 2)).takeWhile Mk.V9).length≤1048576:=by
  have:=Mk.z2r Mk.V9 (s.data.toList.drop (k + 2));rw[List.length_drop,bs_len] at this;omega
 generalize ((s.data.toList.drop (k + 2)).takeWhile Mk.V9)=raw at hp HO hnl;clear e1 hj1 c1 f1;refine hp.mono ?_;rintro e w2 ⟨rfl,RD2,MV2⟩;have H2:=Ld (H1.out.next MV2.ap RD2);have L2:=Ld (L1.out.trans (Fr.of_ap H1.out MV2.ap));clear hp RD2 MV2 H1 L1 H;go_wp2_with fail;refine(q1b (st raw) _ (by rw[Z4];omega)).mono ?_;rintro e w3 ⟨rfl,hb3⟩;rw[z1o];have H3:=Ld (H2.out.below hb3);have L3:=Ld (L2.out.trans (Fr.of_below H2.out hb3));have hnm:(Mg.fold raw).length≤1048576:=by rw[Mg.fold,List.length_map];exact hnl
 generalize Mg.fold raw=nm at HO hnm ⊢;clear hb3 H2 L2;go_upto_if 21 with fail;have hb4:=(Below.refl _ w3).alloc (Lr) (.cells #[.int .i64 3,.string (st nm),.slice none 0 0,.string ⟨#[]⟩] 181);have PB4:=Ld (Blk.new w3 181 #[.int .i64 3,.string (st nm),.slice none 0 0,.string ⟨#[]⟩]);have H4:=Ld (H3.out.below hb4);have L4:=Ld (L3.out.trans (Fr.of_below H3.out hb4));have HPR:=Ld (show w3.heap.size ≠ R by have:=H3.out.rlt;omega);have HPO:=Ld (show ov.ownBlock ≠ some w3.heap.size from fun e=>by have:=(H3.out.own.lt _ e).2;omega);generalize w3.alloc (.cells #[.int .i64 3,.string (st nm),.slice none 0 0,.string ⟨#[]⟩] 181)=w4 at PB4 H4 L4 ⊢;have HBP:=Ld H3.out.blt;generalize w3.heap.size=P at PB4 HPR HPO HBP ⊢;have hB1:4 < B:=H4.out.hB;have hg4:=hg.below L4.out.below hB1
 cases hbh:Mk.behind [62] (s.data.toList.drop j1) with
 | none =>
  rw[hbh] at HO;have HAT:=Ld (q3f [62] 0 hg4 H4.out.rd l1 hs (by omega) (by decide) (by decide) hbh);clear hb4 H3 L3 hg4 hbh;go_wp2_with fail;refine HAT.out.mono ?_;rintro e w5 ⟨rfl,n,rfl⟩;have H5:=Ld (H4.out.below (below_drewN (Below.refl _ w4) n));have L5:=Ld (L4.out.drewN n);go_wp2_with fail;exact⟨rfl,by rw[HO.out];exact⟨rfl,_,_,_,H5.out⟩,L5.out⟩
 | some r =>
  rw[hbh] at HO;simp only at HO;have HAT:=Ld (q3g [62] 0 hg4 H4.out.rd l1 hs (by omega) (by decide) (by decide) hbh);clear hb4 H3 L3 hg4 hbh;go_wp2_with fail;refine HAT.out.mono ?_;rintro e w6 ⟨rfl,j2,hj2,hjl,hr,RD5,MV5⟩;have H6:=Ld (H4.out.next MV5.ap RD5);have L6:=Ld (L4.out.trans (Fr.of_ap H4.out MV5.ap));have PB6:=Ld (Blk.ap PB4.out MV5.ap HPR.out);have AT6:=Ld (AtsV.nil w6 (KT w6 B));have HR:=Ld hr;clear HAT RD5 MV5 H4 L4 PB4 hr;have c1:w6.cell? ⟨P,1,none⟩=some (.string (st nm)):=Blk.cell PB6.out 1;have hN:=q8e (st nm) w6 (by rw[Z4];omega);rw[z1o] at hN
  cases hin:Mk.isName nm with
  | false =>
   rw[hin] at hN HO;have HN:=Ld hN;clear hN hin;go_wp2_with fail;refine HN.out.mono ?_;rintro e w7 ⟨rfl,rfl⟩;go_wp2_with fail;go_end0;exact⟨by rw[HO.out];exact⟨rfl,j2,hj2,by omega,HR.out,_,_,H6.out⟩,L6.out⟩
  | true =>
   rw[hin] at hN HO;have HO2:Hid (Mk.z3q (s.data.toList.drop (k + 2))=.tag ⟨3,nm,[],[]⟩ r):=by show _=_;rw[HO.out];simp
   have HN:=Ld hN;clear hN hin HO;go_wp2_with fail;refine HN.out.mono ?_;rintro e w7 ⟨rfl,rfl⟩;have hg7:=hg.below L6.out.below hB1;have HFL:=Ld (q52 hg7 H6.out htx hts);clear HN hg7 c1;go_wp2_with fail;refine HFL.out.mono ?_;rintro e w8 ⟨rfl,⟨ov8,xs8,h8⟩,hb8,ha8⟩;have H8:=Ld h8;have L8:=Ld (L6.out.trans (Fr.of_push H6.out hb8 ha8));have PB8:=Ld (Blk.ap PB6.out ha8 (fun q=>q.elim HPR.out HPO.out));have AT8:=Ld (AT6.out.frame (H6.out.keepAp ha8));clear HFL h8 hb8 ha8 H6 L6 PB6 AT6;have hfl:=z8i tx ts;go_upto_region 7 with fail;have d3:=H8.out.rd.c3;have p0:w8.cell? ⟨P,0,none⟩=some (.int .i64 3):=Blk.cell PB8.out 0;have p1:w8.cell? ⟨P,1,none⟩=some (.string (st nm)):=Blk.cell PB8.out 1;have p2:w8.cell? ⟨P,2,none⟩=some (.slice none 0 0):=Blk.cell PB8.out 2;have p3:w8.cell? ⟨P,3,none⟩=some (.string ⟨#[]⟩):=Blk.cell PB8.out 3;obtain⟨i0,hi,hz0,hz1,hz2⟩:=info_parts Tryz.infoTok;have hbl:=H8.out.blt;have ow10:=z0f H8.out.own (((Ap.refl (fun _=>False) w8).drew).alloc (.cells #[.int .i64 3,.string (st nm),.slice none 0 0,.string ⟨#[]⟩] 181)) (fun _ _ q=>q);have hb11:Below w8.heap.size w8 (w8.drew.alloc (.cells #[.int .i64 3,.string (st nm),.slice none 0 0,.string ⟨#[]⟩] 181)):=((Below.refl _ w8).drew).alloc (Lr) _;have OW10:=Ld ow10;have HB11:=Ld hb11;clear ow10 hb11;have d3a:(w8.alloc (.cells #[.int .i64 3,.string (st nm),.slice none 0 0,.string ⟨#[]⟩] 181)).cell? ⟨R,3,none⟩=some ov8:=Blk.cell (Blk.alloc H8.out.rd _) 3
   go_region_law (refine z0l rfl (.tmp 36) (.tmp 38) 63 rfl B 181 i0 (.agg #[.int .i64 0,.string ⟨#[]⟩,.slice none 0 0,.string ⟨#[]⟩]) 4 64 underlying63 hi hz0 hz1 hz2 rfl (by decide) ov8 (Mk.flush tx ts).length xs8 (by simp[Act.eval,Act.put]) OW10.out ⟨w8.heap.size,0,none⟩ 1 1 [.int .i64 3,.string (st nm),.slice none 0 0,.string ⟨#[]⟩] (by simp[Act.eval,Act.put]) rfl (z0h w8.drew _ _) (by intro u hu;simp at hu;rcases hu with rfl | rfl | rfl | rfl <;> rfl) (by decide) (by unfold maxLen;omega) (by omega) (by simp;omega) ?_;intro v' w10 hown' hgrow hfresh;have hpush:=Ld (H8.out.push (t:=⟨3,nm,[],[]⟩) (va:=.slice none 0 0) AT8.out HB11.out hown' hgrow (hfresh.imp id (fun e=>by rw[e];simp)));have hR:Rd w10 R s j2 [] ov8:=(hgrow.block R (Nat.lt_of_lt_of_le H8.out.rlt HB11.out.size) (fun e=>H8.out.ne e.symm)).trans ((HB11.out.block R H8.out.rlt).trans H8.out.rd);have f3':w10.frozen? ⟨R,3,none⟩=false:=hR.fz 3;have c3':w10.cell? ⟨R,3,none⟩=some ov8:=hR.c3;obtain⟨ao2,cap2,hv⟩:=Z9 hown';rw[hv] at hpush;clear hown' hgrow hfresh hR;rw[hv])
   all_goals
    go_wp2_with fail;go_end0;exact⟨by rw[HO2.out];exact⟨rfl,j2,hj2,by omega,HR.out,hpush.out.1⟩,L8.out.trans (Fr.of_push H8.out hpush.out.2.1 hpush.out.2.2)⟩
end
end Go.Proofs.YtjonkbdldebkiaaGreatDoor
namespace Mk
theorem q42 (q:Bs→Bool) (l:List At) (k:Nat) (h:k < l.length):z14 q (l.take k) (l.drop k)=if !q l[k].n then 1 else if z4m (l.take k) l[k].n then 6 else z14 q (l.take (k + 1)) (l.drop (k + 1)):=by
 rw[List.drop_eq_getElem_cons h,List.take_succ_eq_append_getElem h];rfl
end Mk
namespace Go.Proofs.YtjonkbdldebkiaaGreatDoor
open Go.Proofs.Tryz Go.RowKit
theorem AtsV.take {w:World} {K:Nat→Prop} {ao:Option Addr} {cap:Nat} {l:List Mk.At} (h:AtsV w K (.slice ao l.length cap) l) (i:Nat) (hi:i≤l.length):AtsV w K (.slice ao i cap) (l.take i):=by
 obtain⟨ao',cap',h1,h2,h3,h4⟩:=h;injection h1 with e1 e2 e3;subst e1;subst e3;refine⟨ao,cap,by rw[List.length_take,Nat.min_eq_left hi],?_,by rw[List.length_take];omega,by rw[List.length_take];omega⟩
 rcases h2 with h2 | ⟨g,o,e1,e2,e3⟩
 ·left
  have:l=[]:=List.eq_nil_of_length_eq_zero (by have:=z7u l;rw[h2] at this;simp at this;omega);subst this;simp[Y8]
 ·refine .inr ⟨g,o,e1,e2,fun k v hk=>e3 k v ?_⟩
  have hsplit:Y8 l=Y8 (l.take i)++Y8 (l.drop i):=by
   rw[Y8,Y8,Y8,← List.flatMap_append,List.take_append_drop]
  rw[hsplit,List.getElem?_append_left]
  ·exact hk
  ·rcases Nat.lt_or_ge k (Y8 (l.take i)).length with q | q
   ·exact q
   ·rw[List.getElem?_eq_none q] at hk;cases hk
theorem q7n (P:Nat) (nm:List UInt8) (l:List Mk.At) (w:World) (hP:P < w.heap.size) (hc:w.cell? ⟨P,0,none⟩=some (.string (st nm))):q5m 219 #[.pointer (some ⟨P,0,none⟩)] (fun a=>a.n == nm) l w:=by
 intro w1 hb a _;have c0:w1.cell? ⟨P,0,none⟩=some (.string (st nm)):=(hb.cell (p:=⟨P,0,none⟩) hP).trans hc;have hP1:P < w1.heap.size:=Nat.lt_of_lt_of_le hP hb.size;unfold atV;go_enter func219,ntmps219;go_wp2_with fail;go_ret;exact⟨Z8 (by rw[show (st a.n).toList=a.n from Lib.toList_data _,show (st nm).toList=nm from Lib.toList_data _]),(Below.refl _ w1).alloc (Lr) _⟩
theorem j5h (args:Array Value) (w:World):(callFunc 219 args).run prog w=.ok (.enter 219 args) w:=Z7 func219 (by kernel_rfl) rfl _ _
def z05 (n:List UInt8) (va:Value) (t:List UInt8) (vk:Value):Value:=.agg #[.string (st n),va,.string (st t),vk]
theorem z3i (k:Mk.Fo) (h:k ≠ .nil):0 < k.len:=by
 cases k with
 | nil=>exact absurd rfl h
 | node _ _ _ _ _=>exact Nat.succ_pos _
end Go.Proofs.YtjonkbdldebkiaaGreatDoor
