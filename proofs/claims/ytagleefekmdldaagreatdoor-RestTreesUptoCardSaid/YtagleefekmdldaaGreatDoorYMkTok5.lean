/- Contract of the token reader's method tag. Condition: a text of at most 1048576 bytes. -/
import Derived.Test.YtagleefekmdldaaGreatDoorYMkTree2
import Derived.Deep.RegionLaw
import Derived.Deep.RegionHeld3
import Derived.Test.YtagleefekmdldaaGreatDoorYUrlD
set_option linter.unusedVariables false
set_option linter.unusedSimpArgs false
set_option maxHeartbeats 8000000
set_option maxRecDepth 100000
namespace Go.Proofs.YtagleefekmdldaaGreatDoor
open Go.Proofs.Tryz Go.RowKit
theorem Y7 {P:Program} {w:World} {ops:Array Oper} {o:Oper} {a:Act} {K:Act→World→Prop} {Q:Exit→Act→World→Prop} {E:Prop} (hgd:o.guard=none) (s x:Operand) (t:TypeId)
  (ho:o.op=.call { callee:=.builtin .append,args:=#[s,x],argTypes:=#[t,t] })
  (base:Nat) (e:TypeId) (i:TypeInfo) (z:Value) (size bytes:Nat) (ht:P.underlying t=some (.slice e)) (hi:P.info? e=some i) (hz:i.zero=some z)
  (hsize:i.size=size) (hby:i.bytes=bytes) (hzs:z.cells.size=size) (hsz:0 < size)
  (v:Value) (n:Nat) (xs:List Value) (hs:a.eval s=v) (hown:w.ownsRow base e size v n xs)
  (ad:Addr) (m c:Nat) (news:List Value) (hx:a.eval x=.slice (some ad) m c) (hl:news.length=m * size) (hnews:∀ j u,news[j]? = some u→w.cell? (ad.add j)=some u) (h1:∀ u ∈ news,u.oneCell'=true)
  (hm0:0 < m) (h63:n + m≤maxLen) (hbytes:(n + m) * bytes≤140737488355328) (hbase:base≤w.heap.size)
  (h:∀ v' w',w'.ownsRow base e size v' (n + m) (xs++news)→w.grownBy w' v.ownBlock→(v'.ownBlock=v.ownBlock∨v'.ownBlock=some w.heap.size)→K (a.put o.dst v') w') :
  if Region.wanted o (yielded ops a.tmps)=true then Oper.wp P o a w K Q else E:=by
 have hw:Region.wanted o (yielded ops a.tmps)=true:=by simp[Region.wanted,hgd]
 rw[if_pos hw];obtain⟨v',w',hr,h2,h3,_⟩:=run_append_own (P:=P) w base t o.type e i z size bytes ht hi hz hsize hby hzs hsz v n xs hown ad m c news hl hnews h1 h63 hbytes hbase;have h5:=z5i base t o.type e i z size bytes ht hi hz hsize hby v n xs hown ad m c news hl hnews h1 hm0 h63 hbytes hr;have hfin:=h v' w' h2 h3 h5;unfold Oper.wp execOp;simp only [ho,resolve,invoke,builtin,Sem.run_bind,Sem.run_pure,Result.andThen_ok,List.map_toArray,List.map_cons,List.map_nil,hs,hx,hr];exact hfin
theorem own_KT {w:World} {B C n:Nat} {v:Value} {xs:List Value} (h:w.ownsRow C 73 2 v n xs) (hC:B≤C):∀ g,v.ownBlock=some g→KT w B g:=by
 intro g hg
 rcases h.2 with ⟨hv,_⟩ | ⟨g',cap,cur,hv,hb,hh,_⟩
 ·rw[hv] at hg;cases hg
 ·rw[hv] at hg
  injection hg with hg;have hg:g'=g:=hg;subst hg;exact⟨Nat.le_trans hC hb,_,_,hh⟩
theorem RdO.frame {w w':World} {B R:Nat} {s:ByteArray} {k:Nat} {tx:List UInt8} {ts:List Mk.Tok} {ov:Value} {xs:List Value} (h:RdO w B R s k tx ts ov xs) (hb:∀ b,b < w.heap.size→b=R∨ov.ownBlock=some b∨KT w B b→w'.heap[b]? = w.heap[b]?):RdO w' B R s k tx ts ov xs:=by
 refine⟨h.hB,h.hBR,(hb R h.rlt (.inl rfl)).trans h.rd,⟨h.own.1,h.own.2.imp id ?_⟩,h.cells.frame fun b hk=>hk.keep (hb b hk.lt (.inr (.inr hk))),h.ne⟩;rintro ⟨g,cap,cur,h1,h2,h3,h4⟩;have e:ov.ownBlock=some g:=by rw[h1];rfl
 exact⟨g,cap,cur,h1,h2,(hb g (h.own.lt g e).2 (.inr (.inl e))).trans h3,h4⟩
theorem RdO.far {w:World} {B R:Nat} {s:ByteArray} {k:Nat} {tx:List UInt8} {ts:List Mk.Tok} {ov:Value} {xs:List Value} (h:RdO w B R s k tx ts ov xs) {P:Nat} {cs:Array Value} (hP:Blk w P 52 cs) (hR:P ≠ R) (ho:ov.ownBlock ≠ some P) (i:Nat) (v:Value):RdO (w.setCell ⟨P,i,none⟩ v) B R s k tx ts ov xs:=by
 refine h.frame fun b _ hb=>Below.heap_setCell w ⟨P,i,none⟩ v b ?_
 rintro rfl
 rcases hb with e | e | e
 ·exact hR e
 ·exact ho e
 ·exact e.ne ⟨_,hP⟩ (by decide) rfl
theorem KT.far {w:World} {B P:Nat} {cs:Array Value} (hP:Blk w P 52 cs) (i:Nat) (v:Value) (b:Nat) (hb:KT w B b):KT (w.setCell ⟨P,i,none⟩ v) B b∧(w.setCell ⟨P,i,none⟩ v).heap[b]? = w.heap[b]? :=
 hb.keep (Below.heap_setCell w ⟨P,i,none⟩ v b (fun e=>hb.ne ⟨_,hP⟩ (by decide) e))
theorem RdO.keepAp {w w':World} {B R:Nat} {s:ByteArray} {k:Nat} {tx:List UInt8} {ts:List Mk.Tok} {ov:Value} {xs:List Value} (h:RdO w B R s k tx ts ov xs) (ha:Ap (fun b=>b=R∨ov.ownBlock=some b) w w') (b:Nat) (hb:KT w B b):KT w' B b∧w'.heap[b]? = w.heap[b]?:=by
 refine hb.keep (ha.block b hb.lt ?_);rintro (e | e)
 ·exact hb.ne ⟨_,h.rd⟩ (by decide) e
 ·rcases h.own.2 with ⟨hv,_⟩ | ⟨g,cap,cur,hv,_,hh,_⟩
  ·rw[hv] at e;cases e
  ·rw[hv] at e
   injection e with e;exact hb.ne ⟨_,hh⟩ (by decide) e.symm
theorem z4a (tx:List UInt8) (ts:List Mk.Tok):(Mk.flush tx ts).length≤ts.length + 1:=by
 show (if (Mk.take tx).1=[] then ts else ts++[⟨1,[],[],(Mk.take tx).1⟩]).length≤ts.length + 1
 split
 ·omega
 ·rw[List.length_append];simp
def q90 (H:Mk.Here) (e:Ending) (B R:Nat) (s:ByteArray) (k:Nat) (tx:List UInt8) (ts:List Mk.Tok) (w':World):Prop :=
 match H with
 | .text=>False
 | .stop=>e=Gave∧∃ j,RdS w' B R s j tx ts
 | .gone r=>e=.returned (.tuple #[])∧∃ j,j≤s.size∧k < j∧r=s.data.toList.drop j∧RdS w' B R s j tx ts
 | .tag t r=>e=.returned (.tuple #[])∧∃ j,j≤s.size∧k < j∧r=s.data.toList.drop j∧RdS w' B R s j [] (Mk.flush tx ts++[t])
section
variable {w : World} {B R : Nat} {s : ByteArray} {k : Nat} {tx : List UInt8} {ts : List Mk.Tok}
theorem q8f (hg:Gl w) (h:RdS w B R s k tx ts) (hk:k + 1≤s.size) (hs:s.size≤1048576) (htx:tx.length≤1048576) (hts:ts.length≤1048576) :
  Calls prog 117 #[.pointer (some ⟨R,0,none⟩),.int .i64 2,.int .i64 1] w fun e w'=>q90 (Mk.z2i (s.data.toList.drop (k + 1))) e B R s k tx ts w'∧Fr B w w':=by
 obtain⟨ov,xs,h⟩:=h;have c1:=h.rd.c1;have f1:=h.rd.fz 1;have hBl:=h.blt;have hR2:1 < R:=Nat.le_trans h.hB h.hBR;have H:=Ld h;clear h;go_enter func117,ntmps117;go_wp2_with fail;have H1:Hid (RdO (w.setCell ⟨R,1,none⟩ (.int .i64 ((k:Int) + 1))) B R s (k + 1) tx ts ov xs):=by show RdO _ _ _ _ _ _ _ _ _;have:=H.out.setAt (k + 1);simpa using this
 have L1:Hid (Fr B w (w.setCell ⟨R,1,none⟩ (.int .i64 ((k:Int) + 1)))):=Fr.own H.out 1 _;generalize (w.setCell ⟨R,1,none⟩ (.int .i64 ((k:Int) + 1)))=w1 at H1 L1 ⊢;have e1:=adv s (k + 1) Mk.Q7;have l1:=z5n s (k + 1) hk Mk.Q7;have hp:=z3v 141 #[] Mk.Q7 j4n H1.out.rd hk hs (fun w' _=>q5d w');obtain⟨j1,hj1⟩:∃ j1,j1=k + 1 + ((s.data.toList.drop (k + 1)).takeWhile Mk.Q7).length:=⟨_,rfl⟩;rw[← hj1] at e1 l1 hp;have hkj:k + 1≤j1:=by omega
 have HO:Hid (Mk.z2i (s.data.toList.drop (k + 1))=(match Mk.z1c (s.data.toList.drop j1) with | none=>.stop | some (l,rest)=>if Mk.isName (Mg.fold ((s.data.toList.drop (k + 1)).takeWhile Mk.Q7)) then .tag ⟨2,Mg.fold ((s.data.toList.drop (k + 1)).takeWhile Mk.Q7),l,[]⟩ rest else .gone rest)):=by
  show _=_;rw[e1];rfl
 have hnl:((s.data.toList.drop (k + 1)).takeWhile Mk.Q7).length≤1048576:=by
  have:=Mk.z2j Mk.Q7 (s.data.toList.drop (k + 1));rw[List.length_drop,bs_len] at this;omega
 generalize ((s.data.toList.drop (k + 1)).takeWhile Mk.Q7)=raw at hp HO hnl;clear e1 hj1 c1 f1;refine hp.mono ?_;rintro e w2 ⟨rfl,RD2,MV2⟩;have H2:=Ld (H1.out.next MV2.ap RD2);have L2:=Ld (L1.out.trans (Fr.of_ap H1.out MV2.ap));clear hp RD2 MV2 H1 L1 H;go_wp2_with fail;refine(q1j (st raw) _ (by rw[y9];omega)).mono ?_;rintro e w3 ⟨rfl,hb3⟩;rw[z0b];have H3:=Ld (H2.out.below hb3);have L3:=Ld (L2.out.trans (Fr.of_below H2.out hb3));have hnm:(Mg.fold raw).length≤1048576:=by rw[Mg.fold,List.length_map];exact hnl
 generalize Mg.fold raw=nm at HO hnm ⊢;clear hb3 H2 L2;go_upto_if 21 with fail;have hb4:=(Below.refl _ w3).alloc (Lr) (.cells #[.int .i64 2,.string (st nm),.slice none 0 0,.string ⟨#[]⟩] 52);have PB4:=Ld (Blk.new w3 52 #[.int .i64 2,.string (st nm),.slice none 0 0,.string ⟨#[]⟩]);have H4:=Ld (H3.out.below hb4);have L4:=Ld (L3.out.trans (Fr.of_below H3.out hb4));have HPR:=Ld (show w3.heap.size ≠ R by have:=H3.out.rlt;omega);have HPO:=Ld (show ov.ownBlock ≠ some w3.heap.size from fun e=>by have:=(H3.out.own.lt _ e).2;omega);generalize w3.alloc (.cells #[.int .i64 2,.string (st nm),.slice none 0 0,.string ⟨#[]⟩] 52)=w4 at PB4 H4 L4 ⊢;have HBP:=Ld H3.out.blt;generalize w3.heap.size=P at PB4 HPR HPO HBP ⊢;have hB1:1 < B:=H4.out.hB;have hg4:=hg.below L4.out.below hB1;have HAT:=Ld (rd_attrs hg4 hR2 H4.out.rd l1 hs);clear hb4 H3 L3 hg4;go_wp2_with fail;refine HAT.out.mono ?_;rintro e w5 (⟨hno,rfl,⟨jj,RD5⟩,AP5⟩ | ⟨l,r,j2,v,hso,rfl,ow5,hj2,hjl,hll,hr,RD5,AP5⟩)
 ·rw[hno] at HO
  have H5:=Ld (H4.out.next AP5 RD5);have L5:=Ld (L4.out.trans (Fr.of_ap H4.out AP5));clear HAT RD5 AP5 hno;go_wp2_with fail;exact⟨rfl,by rw[HO.out];exact⟨rfl,_,_,_,H5.out⟩,L5.out⟩
 ·rw[hso] at HO
  simp only at HO;obtain⟨ao,cap,rfl⟩:=Y1 ow5;have H5:=Ld (H4.out.next AP5 RD5);have L5:=Ld (L4.out.trans (Fr.of_ap H4.out AP5));have PB5:=Ld (Blk.ap PB4.out AP5 HPR.out);have AT5:=Ld (AtsV.of_own (K:=KT w5 B) ow5 (own_KT ow5 H4.out.blt));have c2:w5.cell? ⟨P,2,none⟩=some (.slice none 0 0):=Blk.cell PB5.out 2;have f2:=Blk.frozen PB5.out 2;have HR:=Ld hr;clear HAT RD5 AP5 hso ow5 H4 L4 PB4 hr;go_upto_region 5 with fail;have H6:=Ld (H5.out.far PB5.out HPR.out HPO.out 2 (.slice ao l.length cap));have L6:=Ld (L5.out.trans (Fr.tok PB5.out HBP.out 2 (.slice ao l.length cap)));have PB6:=Ld (Blk.set_ PB5.out 2 (.slice ao l.length cap));have AT6:=Ld (AT5.out.frame (KT.far PB5.out 2 (.slice ao l.length cap)));generalize w5.setCell ⟨P,2,none⟩ (.slice ao l.length cap)=w6 at H6 L6 PB6 AT6 ⊢;clear H5 L5 PB5 AT5 c2 f2;have c1:w6.cell? ⟨P,1,none⟩=some (.string (st nm)):=Blk.cell PB6.out 1;have hN:=z7f (st nm) w6 (by rw[y9];omega);rw[z0b] at hN
  cases hin:Mk.isName nm with
  | false =>
   rw[hin] at hN HO;have HN:=Ld hN;clear hN hin;go_wp2_with fail;refine HN.out.mono ?_;rintro e w7 ⟨rfl,rfl⟩;go_wp2_with fail;go_end0;exact⟨by rw[HO.out];exact⟨rfl,j2,hj2,by omega,HR.out,_,_,H6.out⟩,L6.out⟩
  | true =>
   rw[hin] at hN HO;have HO2:Hid (Mk.z2i (s.data.toList.drop (k + 1))=.tag ⟨2,nm,l,[]⟩ r):=by show _=_;rw[HO.out];simp
   have HN:=Ld hN;clear hN hin HO;go_wp2_with fail;refine HN.out.mono ?_;rintro e w7 ⟨rfl,rfl⟩;have hg7:=hg.below L6.out.below hB1;have HFL:=Ld (q4o hg7 H6.out htx hts);clear HN hg7 c1;go_wp2_with fail;refine HFL.out.mono ?_;rintro e w8 ⟨rfl,⟨ov8,xs8,h8⟩,hb8,ha8⟩;have H8:=Ld h8;have L8:=Ld (L6.out.trans (Fr.of_push H6.out hb8 ha8));have PB8:=Ld (Blk.ap PB6.out ha8 (fun q=>q.elim HPR.out HPO.out));have AT8:=Ld (AT6.out.frame (H6.out.keepAp ha8));clear HFL h8 hb8 ha8 H6 L6 PB6 AT6;have hfl:=z4a tx ts;go_upto_region 7 with fail;have d3:=H8.out.rd.c3;have p0:w8.cell? ⟨P,0,none⟩=some (.int .i64 2):=Blk.cell PB8.out 0;have p1:w8.cell? ⟨P,1,none⟩=some (.string (st nm)):=Blk.cell PB8.out 1;have p2:w8.cell? ⟨P,2,none⟩=some (.slice ao l.length cap):=Blk.cell PB8.out 2;have p3:w8.cell? ⟨P,3,none⟩=some (.string ⟨#[]⟩):=Blk.cell PB8.out 3;obtain⟨i0,hi,hz0,hz1,hz2⟩:=info_parts Tryz.infoTok;have hbl:=H8.out.blt;have ow10:=X8 H8.out.own (((Ap.refl (fun _=>False) w8).drew).alloc (.cells #[.int .i64 2,.string (st nm),.slice ao l.length cap,.string ⟨#[]⟩] 52)) (fun _ _ q=>q);have hb11:Below w8.heap.size w8 (w8.drew.alloc (.cells #[.int .i64 2,.string (st nm),.slice ao l.length cap,.string ⟨#[]⟩] 52)):=((Below.refl _ w8).drew).alloc (Lr) _;have OW10:=Ld ow10;have HB11:=Ld hb11;clear ow10 hb11;have d3a:(w8.alloc (.cells #[.int .i64 2,.string (st nm),.slice ao l.length cap,.string ⟨#[]⟩] 52)).cell? ⟨R,3,none⟩=some ov8:=Blk.cell (Blk.alloc H8.out.rd _) 3
   go_region_law (refine Y7 rfl (.tmp 36) (.tmp 38) 27 rfl B 52 i0 (.agg #[.int .i64 0,.string ⟨#[]⟩,.slice none 0 0,.string ⟨#[]⟩]) 4 64 underlying27 hi hz0 hz1 hz2 rfl (by decide) ov8 (Mk.flush tx ts).length xs8 (by simp[Act.eval,Act.put]) OW10.out ⟨w8.heap.size,0,none⟩ 1 1 [.int .i64 2,.string (st nm),.slice ao l.length cap,.string ⟨#[]⟩] (by simp[Act.eval,Act.put]) rfl (Y9 w8.drew _ _) (by intro u hu;simp at hu;rcases hu with rfl | rfl | rfl | rfl <;> rfl) (by decide) (by unfold maxLen;omega) (by omega) (by simp;omega) ?_;intro v' w10 hown' hgrow hfresh;have hpush:=Ld (H8.out.push (t:=⟨2,nm,l,[]⟩) (va:=.slice ao l.length cap) AT8.out HB11.out hown' hgrow (hfresh.imp id (fun e=>by rw[e];simp)));have hR:Rd w10 R s j2 [] ov8:=(hgrow.block R (Nat.lt_of_lt_of_le H8.out.rlt HB11.out.size) (fun e=>H8.out.ne e.symm)).trans ((HB11.out.block R H8.out.rlt).trans H8.out.rd);have f3':w10.frozen? ⟨R,3,none⟩=false:=hR.fz 3;have c3':w10.cell? ⟨R,3,none⟩=some ov8:=hR.c3;obtain⟨ao2,cap2,hv⟩:=Y1 hown';rw[hv] at hpush;clear hown' hgrow hfresh hR;rw[hv])
   all_goals
    go_wp2_with fail;go_end0;exact⟨by rw[HO2.out];exact⟨rfl,j2,hj2,by omega,HR.out,hpush.out.1⟩,L8.out.trans (Fr.of_push H8.out hpush.out.2.1 hpush.out.2.2)⟩
theorem q6j (hg:Gl w) (h:RdS w B R s k tx ts) (hk:k + 2≤s.size) (hs:s.size≤1048576) (htx:tx.length≤1048576) (hts:ts.length≤1048576) :
  Calls prog 117 #[.pointer (some ⟨R,0,none⟩),.int .i64 3,.int .i64 2] w fun e w'=>q90 (Mk.z0y (s.data.toList.drop (k + 2))) e B R s k tx ts w'∧Fr B w w':=by
 obtain⟨ov,xs,h⟩:=h;have c1:=h.rd.c1;have f1:=h.rd.fz 1;have hBl:=h.blt;have hR2:1 < R:=Nat.le_trans h.hB h.hBR;have H:=Ld h;clear h;go_enter func117,ntmps117;go_wp2_with fail;have H1:Hid (RdO (w.setCell ⟨R,1,none⟩ (.int .i64 ((k:Int) + 2))) B R s (k + 2) tx ts ov xs):=by show RdO _ _ _ _ _ _ _ _ _;have:=H.out.setAt (k + 2);simpa using this
 have L1:Hid (Fr B w (w.setCell ⟨R,1,none⟩ (.int .i64 ((k:Int) + 2)))):=Fr.own H.out 1 _;generalize (w.setCell ⟨R,1,none⟩ (.int .i64 ((k:Int) + 2)))=w1 at H1 L1 ⊢;have e1:=adv s (k + 2) Mk.Q7;have l1:=z5n s (k + 2) hk Mk.Q7;have hp:=z3v 141 #[] Mk.Q7 j4n H1.out.rd hk hs (fun w' _=>q5d w');obtain⟨j1,hj1⟩:∃ j1,j1=k + 2 + ((s.data.toList.drop (k + 2)).takeWhile Mk.Q7).length:=⟨_,rfl⟩;rw[← hj1] at e1 l1 hp;have hkj:k + 2≤j1:=by omega
 have HO:Hid (Mk.z0y (s.data.toList.drop (k + 2))=(match Mk.behind [62] (s.data.toList.drop j1) with | none=>.stop | some rest=>if Mk.isName (Mg.fold ((s.data.toList.drop (k + 2)).takeWhile Mk.Q7)) then .tag ⟨3,Mg.fold ((s.data.toList.drop (k + 2)).takeWhile Mk.Q7),[],[]⟩ rest else .gone rest)):=by
  show _=_;rw[e1];rfl
 have hnl:((s.data.toList.drop (k + 2)).takeWhile Mk.Q7).length≤1048576:=by
  have:=Mk.z2j Mk.Q7 (s.data.toList.drop (k + 2));rw[List.length_drop,bs_len] at this;omega
 generalize ((s.data.toList.drop (k + 2)).takeWhile Mk.Q7)=raw at hp HO hnl;clear e1 hj1 c1 f1;refine hp.mono ?_;rintro e w2 ⟨rfl,RD2,MV2⟩;have H2:=Ld (H1.out.next MV2.ap RD2);have L2:=Ld (L1.out.trans (Fr.of_ap H1.out MV2.ap));clear hp RD2 MV2 H1 L1 H;go_wp2_with fail;refine(q1j (st raw) _ (by rw[y9];omega)).mono ?_;rintro e w3 ⟨rfl,hb3⟩;rw[z0b];have H3:=Ld (H2.out.below hb3);have L3:=Ld (L2.out.trans (Fr.of_below H2.out hb3));have hnm:(Mg.fold raw).length≤1048576:=by rw[Mg.fold,List.length_map];exact hnl
 generalize Mg.fold raw=nm at HO hnm ⊢;clear hb3 H2 L2;go_upto_if 21 with fail;have hb4:=(Below.refl _ w3).alloc (Lr) (.cells #[.int .i64 3,.string (st nm),.slice none 0 0,.string ⟨#[]⟩] 52);have PB4:=Ld (Blk.new w3 52 #[.int .i64 3,.string (st nm),.slice none 0 0,.string ⟨#[]⟩]);have H4:=Ld (H3.out.below hb4);have L4:=Ld (L3.out.trans (Fr.of_below H3.out hb4));have HPR:=Ld (show w3.heap.size ≠ R by have:=H3.out.rlt;omega);have HPO:=Ld (show ov.ownBlock ≠ some w3.heap.size from fun e=>by have:=(H3.out.own.lt _ e).2;omega);generalize w3.alloc (.cells #[.int .i64 3,.string (st nm),.slice none 0 0,.string ⟨#[]⟩] 52)=w4 at PB4 H4 L4 ⊢;have HBP:=Ld H3.out.blt;generalize w3.heap.size=P at PB4 HPR HPO HBP ⊢;have hB1:1 < B:=H4.out.hB;have hg4:=hg.below L4.out.below hB1
 cases hbh:Mk.behind [62] (s.data.toList.drop j1) with
 | none =>
  rw[hbh] at HO;have HAT:=Ld (q3e [62] 0 hg4 H4.out.rd l1 hs (by omega) (by decide) (by decide) hbh);clear hb4 H3 L3 hg4 hbh;go_wp2_with fail;refine HAT.out.mono ?_;rintro e w5 ⟨rfl,n,rfl⟩;have H5:=Ld (H4.out.below (below_drewN (Below.refl _ w4) n));have L5:=Ld (L4.out.drewN n);go_wp2_with fail;exact⟨rfl,by rw[HO.out];exact⟨rfl,_,_,_,H5.out⟩,L5.out⟩
 | some r =>
  rw[hbh] at HO;simp only at HO;have HAT:=Ld (q3f [62] 0 hg4 H4.out.rd l1 hs (by omega) (by decide) (by decide) hbh);clear hb4 H3 L3 hg4 hbh;go_wp2_with fail;refine HAT.out.mono ?_;rintro e w6 ⟨rfl,j2,hj2,hjl,hr,RD5,MV5⟩;have H6:=Ld (H4.out.next MV5.ap RD5);have L6:=Ld (L4.out.trans (Fr.of_ap H4.out MV5.ap));have PB6:=Ld (Blk.ap PB4.out MV5.ap HPR.out);have AT6:=Ld (AtsV.nil w6 (KT w6 B));have HR:=Ld hr;clear HAT RD5 MV5 H4 L4 PB4 hr;have c1:w6.cell? ⟨P,1,none⟩=some (.string (st nm)):=Blk.cell PB6.out 1;have hN:=z7f (st nm) w6 (by rw[y9];omega);rw[z0b] at hN
  cases hin:Mk.isName nm with
  | false =>
   rw[hin] at hN HO;have HN:=Ld hN;clear hN hin;go_wp2_with fail;refine HN.out.mono ?_;rintro e w7 ⟨rfl,rfl⟩;go_wp2_with fail;go_end0;exact⟨by rw[HO.out];exact⟨rfl,j2,hj2,by omega,HR.out,_,_,H6.out⟩,L6.out⟩
  | true =>
   rw[hin] at hN HO;have HO2:Hid (Mk.z0y (s.data.toList.drop (k + 2))=.tag ⟨3,nm,[],[]⟩ r):=by show _=_;rw[HO.out];simp
   have HN:=Ld hN;clear hN hin HO;go_wp2_with fail;refine HN.out.mono ?_;rintro e w7 ⟨rfl,rfl⟩;have hg7:=hg.below L6.out.below hB1;have HFL:=Ld (q4o hg7 H6.out htx hts);clear HN hg7 c1;go_wp2_with fail;refine HFL.out.mono ?_;rintro e w8 ⟨rfl,⟨ov8,xs8,h8⟩,hb8,ha8⟩;have H8:=Ld h8;have L8:=Ld (L6.out.trans (Fr.of_push H6.out hb8 ha8));have PB8:=Ld (Blk.ap PB6.out ha8 (fun q=>q.elim HPR.out HPO.out));have AT8:=Ld (AT6.out.frame (H6.out.keepAp ha8));clear HFL h8 hb8 ha8 H6 L6 PB6 AT6;have hfl:=z4a tx ts;go_upto_region 7 with fail;have d3:=H8.out.rd.c3;have p0:w8.cell? ⟨P,0,none⟩=some (.int .i64 3):=Blk.cell PB8.out 0;have p1:w8.cell? ⟨P,1,none⟩=some (.string (st nm)):=Blk.cell PB8.out 1;have p2:w8.cell? ⟨P,2,none⟩=some (.slice none 0 0):=Blk.cell PB8.out 2;have p3:w8.cell? ⟨P,3,none⟩=some (.string ⟨#[]⟩):=Blk.cell PB8.out 3;obtain⟨i0,hi,hz0,hz1,hz2⟩:=info_parts Tryz.infoTok;have hbl:=H8.out.blt;have ow10:=X8 H8.out.own (((Ap.refl (fun _=>False) w8).drew).alloc (.cells #[.int .i64 3,.string (st nm),.slice none 0 0,.string ⟨#[]⟩] 52)) (fun _ _ q=>q);have hb11:Below w8.heap.size w8 (w8.drew.alloc (.cells #[.int .i64 3,.string (st nm),.slice none 0 0,.string ⟨#[]⟩] 52)):=((Below.refl _ w8).drew).alloc (Lr) _;have OW10:=Ld ow10;have HB11:=Ld hb11;clear ow10 hb11;have d3a:(w8.alloc (.cells #[.int .i64 3,.string (st nm),.slice none 0 0,.string ⟨#[]⟩] 52)).cell? ⟨R,3,none⟩=some ov8:=Blk.cell (Blk.alloc H8.out.rd _) 3
   go_region_law (refine Y7 rfl (.tmp 36) (.tmp 38) 27 rfl B 52 i0 (.agg #[.int .i64 0,.string ⟨#[]⟩,.slice none 0 0,.string ⟨#[]⟩]) 4 64 underlying27 hi hz0 hz1 hz2 rfl (by decide) ov8 (Mk.flush tx ts).length xs8 (by simp[Act.eval,Act.put]) OW10.out ⟨w8.heap.size,0,none⟩ 1 1 [.int .i64 3,.string (st nm),.slice none 0 0,.string ⟨#[]⟩] (by simp[Act.eval,Act.put]) rfl (Y9 w8.drew _ _) (by intro u hu;simp at hu;rcases hu with rfl | rfl | rfl | rfl <;> rfl) (by decide) (by unfold maxLen;omega) (by omega) (by simp;omega) ?_;intro v' w10 hown' hgrow hfresh;have hpush:=Ld (H8.out.push (t:=⟨3,nm,[],[]⟩) (va:=.slice none 0 0) AT8.out HB11.out hown' hgrow (hfresh.imp id (fun e=>by rw[e];simp)));have hR:Rd w10 R s j2 [] ov8:=(hgrow.block R (Nat.lt_of_lt_of_le H8.out.rlt HB11.out.size) (fun e=>H8.out.ne e.symm)).trans ((HB11.out.block R H8.out.rlt).trans H8.out.rd);have f3':w10.frozen? ⟨R,3,none⟩=false:=hR.fz 3;have c3':w10.cell? ⟨R,3,none⟩=some ov8:=hR.c3;obtain⟨ao2,cap2,hv⟩:=Y1 hown';rw[hv] at hpush;clear hown' hgrow hfresh hR;rw[hv])
   all_goals
    go_wp2_with fail;go_end0;exact⟨by rw[HO2.out];exact⟨rfl,j2,hj2,by omega,HR.out,hpush.out.1⟩,L8.out.trans (Fr.of_push H8.out hpush.out.2.1 hpush.out.2.2)⟩
end
theorem Tryz.infoStr:(prog.info? 9).map (fun i=>(i.zero,i.size,i.bytes))=some (some (.string ⟨#[]⟩),1,16):=by kernel_rfl
theorem z18.of_own {w:World} {K:Nat→Prop} {B:Nat} {e:TypeId} {v:Value} {l:List (List UInt8)} (h:w.ownsRow B e 1 v l.length (z09 l)) (hK:∀ g,v.ownBlock=some g→K g):z18 w K v l:=by
 rcases h.2 with ⟨hv,hn⟩ | ⟨g,cap,cur,hv,_,hh,hnc,hcm,hcs,ht⟩
 ·have:l=[]:=List.eq_nil_of_length_eq_zero hn
  subst this;exact⟨none,0,hv,Lr,.inl rfl,Nat.zero_le _⟩
 ·obtain⟨ao,cap',h1,h2,h3,h4⟩:=z1v.of_own h hK
  rw[hv] at h1;injection h1 with e1 e2 e3;subst e1;subst e3;exact⟨_,_,hv,hnc,h2,hcm⟩
theorem tr_Clone (l:List (List UInt8)) (v:Value) (K:Nat→Prop) (w:World) (hv:z18 w K v l) (hl:l.length≤33554432) :
  Calls prog 67 #[v] w fun e w'=>∃ v',e=.returned v'∧w'.ownsRow w.heap.size 9 1 v' l.length (z09 l)∧Below w.heap.size w w':=by
 obtain⟨ao,cap,rfl,hcap,hcm,hat⟩:=hv.at_
 rcases hat with h0 | ⟨g,o,rfl,_,hc⟩
 ·subst h0
  cases ao with
  | none =>
   refine(Tryz.slices_Clone_string_nil 0 cap w).mono ?_;rintro e w' ⟨rfl,rfl⟩;exact⟨_,rfl,World.ownsRow_nil _ _ _ _,Below.refl _ _⟩
  | some a =>
   refine(Tryz.slices_Clone_string_zero a cap w).mono ?_;rintro e w' ⟨v',rfl,h1,_,h2⟩;exact⟨_,rfl,h1,h2⟩
 ·refine(Tryz.slices_Clone_string g o l.length cap (l.map st) w (by simp) (by omega) (fun j hj=>?_)).mono ?_
  ·have hj':j < l.length:=by simpa using hj
   rw[hc j hj'];simp[List.getD,List.getElem?_eq_getElem hj']
  ·rintro e w' ⟨v',rfl,h1,_,h2⟩
   refine⟨_,rfl,?_,h2⟩;have:((l.map st).take l.length).map Value.string=z09 l:=by
    rw[List.take_of_length_le (by simp),List.map_map];rfl
   rwa [this] at h1
def prevOf (w:World) (g o:Nat) (k:Nat) (prev:Bool):Prop:=match k with | 0=>prev=false | j + 1=>∃ pn:List UInt8,w.cell? ⟨g,o + j * 4,none⟩=some (.string (st pn))∧prev=decide (pn=[])
theorem z3a (names:List (List UInt8)) (prev:Bool) (n:List UInt8) (a:List Mk.At) (t:List UInt8) (k r:Mk.Fo):Mk.Y2 (.node n a t k r) names prev=if Mk.z0p names n a t k ≠ 0 then Mk.z0p names n a t k else if n=[]∧prev=true then 4 else if Mk.Y2 k (names++[n]) false ≠ 0 then Mk.Y2 k (names++[n]) false else Mk.Y2 r names (decide (n=[])):=rfl
theorem tr_check (N:Nat):∀ (f:Mk.Fo) (names:List (List UInt8)) (v vn:Value) (K:Nat→Prop) (w:World),f.bulk < N→names.length + f.bulk≤33554432→FoV w K v f→z18 w K vn names→(∀ b,K b→b < w.heap.size) →
  Calls prog 46 #[v,vn] w fun e w'=>e=.returned (.int .i64 (Mk.Y2 f names false))∧Below w.heap.size w w':=by
 induction N with
 | zero=>intro f names v vn K w hN;omega
 | succ N ih =>
  intro f names v vn K w hN hbk hv hvn hK;obtain⟨g,o,cap,hv1,hlen,hat⟩:=hv.at_
  have HAT:=Ld hat
  clear hat
  have hfl:=Mk.Fo.z0m f;have hst:∀ l:List UInt8,(st l).toList=l:=fun l=>Lib.toList_data _
  rcases hv1 with ⟨hv1,hKg⟩ | ⟨ao,hv1,hnil⟩
  ·have hgl:=hK g hKg
   subst hv1;go_enter func46,ntmps46;go_wp2_with fail
   go_loopw [11] (fun i wr=>∃ (k:Nat) (prev:Bool),k≤f.len∧i=.int .i64 k∧Hid (Mk.Y2 f names false=Mk.Y2 (f.drop k) names prev)∧Hid (prevOf w g o k prev)∧Hid (Below w.heap.size w wr)) (fun i _=>f.len - (intOf i).toNat)
   case atStart=>exact⟨0,false,Nat.zero_le _,rfl,by show _=_;rw[Mk.Fo.drop_zero],rfl,Below.refl _ _⟩
   case round =>
    obtain⟨k,prev,hk,rfl,HA,HP,BL⟩:=hrel;have hsz:=BL.out.size
    by_cases hlt:k < f.len
    ·obtain⟨n,a,t,kk,r,hd,hd1⟩:=Mk.Fo.z1x f k hlt
     obtain⟨va,vk,c0,c1,c2,c3,hva,hvk⟩:=HAT.out k n a t kk r hd;have hprev2:prevOf w g o (k + 1) (decide (n=[])):=⟨n,c0,rfl⟩;have HP2:=Ld hprev2;rw[← BL.out.cell (p:=⟨g,_,none⟩) hgl] at c0 c1 c2 c3;have hdb:=Mk.Fo.z0s f k;rw[hd] at hdb;have hkb:kk.bulk + r.bulk + n.length + Mk.Fo.atB a + 1≤f.bulk:=by
      have e:(Mk.Fo.node n a t kk r).bulk=1 + n.length + t.length + Mk.Fo.atB a + kk.bulk + r.bulk:=rfl;omega
     have HD:Hid (Mk.Y2 f names false=if Mk.z0p names n a t kk ≠ 0 then Mk.z0p names n a t kk else if n=[]∧prev=true then 4 else if Mk.Y2 kk (names++[n]) false ≠ 0 then Mk.Y2 kk (names++[n]) false else Mk.Y2 (f.drop (k + 1)) names (decide (n=[]))):=by
      show _=_;rw[HA.out,hd,hd1,z3a]
     obtain⟨aoa,capa,hva1,hva2⟩:=id hva;obtain⟨aok,capk,xsk,hvk1,hvk2⟩:=id hvk;subst hva1;subst hvk1;have hal:=(Below.refl wr.heap.size wr).alloc (Lr) (.cells #[.string (st n),.slice aoa a.length capa,.string (st t),.slice aok kk.len capk] 38);have BL1:=Ld (BL.out.trans (hal.mono hsz));have PB1:=Ld (Blk.new wr 38 #[.string (st n),.slice aoa a.length capa,.string (st t),.slice aok kk.len capk]);have hnd:=tr_node names n t a kk (.slice aoa a.length capa) (.slice aok kk.len capk) vn K (wr.alloc (.cells #[.string (st n),.slice aoa a.length capa,.string (st t),.slice aok kk.len capk] 38)) (hva.below hK BL1.out) (hvk.below hK BL1.out) (hvn.below hK BL1.out) (fun b hb=>Nat.lt_of_lt_of_le (hK b hb) BL1.out.size) (by omega) (by omega) (by omega);unfold z0d at hnd;generalize Mk.z0p names n a t kk=ce at hnd HD;have HND:=Ld hnd;have HVK:=Ld hvk;clear HAT hal hd hd1 hnd HA hva2 hvk2 hva hvk;go_wp2_with fail;refine HND.out.mono ?_;rintro e w2 ⟨rfl,hb2⟩;have BL2:=Ld (BL1.out.trans (hb2.mono BL1.out.size));have PB2:=Ld (Blk.below PB1.out hb2 (Blk.lt PB1.out));clear hb2 HND BL1 PB1 BL
     by_cases hc0:ce=0
     ·subst hc0
      have HD2:Hid (Mk.Y2 f names false=if n=[]∧prev=true then 4 else if Mk.Y2 kk (names++[n]) false ≠ 0 then Mk.Y2 kk (names++[n]) false else Mk.Y2 (f.drop (k + 1)) names (decide (n=[]))):=by show _=_;rw[HD.out];simp
      clear HD;have p0:w2.cell? ⟨wr.heap.size,0,none⟩=some (.string (st n)):=Blk.cell PB2.out 0;have p3:w2.cell? ⟨wr.heap.size,3,none⟩=some (.slice aok kk.len capk):=Blk.cell PB2.out 3;have hen:n=[]∨n.isEmpty=false:=by
       cases n with
       | nil=>exact .inl rfl
       | cons _ _=>exact .inr rfl
      have HEN:=Ld hen;clear hen c0 c1 c2 c3;go_upto_region 7 with fail
      go_cut [37] (fun b wx=>b=.bool (decide (n=[]) && prev)∧w2=wx)
      case first =>
       rcases Nat.eq_zero_or_pos k with h0 | h0
       ·have hpf:prev=false:=by have:=HP.out;subst h0;exact this
        have hk0:¬ 0 < k:=by omega
        clear h0;have HPF:=Ld hpf;clear hpf;go_wp2_with fail;go_meet
        case rel=>exact⟨by rw[HPF.out,Bool.and_false],rfl⟩
       ·obtain⟨j,hj⟩:∃ j,k=j + 1:=⟨k - 1,by omega⟩
        have hpp:∃ pn:List UInt8,w.cell? ⟨g,o + j * 4,none⟩=some (.string (st pn))∧prev=decide (pn=[]):=by have:=HP.out;subst hj;exact this
        obtain⟨pn,hpc,hpe⟩:=hpp;rw[← BL2.out.cell (p:=⟨g,_,none⟩) hgl] at hpc;have hkj:(k:Int) - 1=j:=by omega
        have hj0:(0:Int)≤j:=by omega
        have hjl:(j:Int) < f.len:=by omega
        have HPE:=Ld hpe;have hpn:pn=[]∨pn.isEmpty=false:=by
         cases pn with
         | nil=>exact .inl rfl
         | cons _ _=>exact .inr rfl
        clear hj hpe
        rcases HEN.out with hn | hn
        ·have hne:n.isEmpty=true:=by rw[hn];rfl
         have HN:=Ld hn;clear hn
         rcases hpn with hp | hp
         ·have hpe:pn.isEmpty=true:=by rw[hp];rfl
          have HPN:=Ld hp;clear hp;go_wp2_with fail;go_meet
          case rel=>exact⟨by rw[HPE.out,HN.out,HPN.out];rfl,rfl⟩
         ·have HPN:=Ld (show pn ≠ [] by rintro rfl;cases hp)
          go_wp2_with fail;go_meet
          case rel=>exact⟨by rw[HPE.out,decide_eq_false HPN.out,Bool.and_false],rfl⟩
        ·have HN:=Ld (show n ≠ [] by rintro rfl;cases hn)
         clear hpn;go_wp2_with fail;go_meet
         case rel=>exact⟨by rw[decide_eq_false HN.out,Bool.false_and],rfl⟩
      case rest =>
       obtain⟨rfl,hw⟩:=hcut;subst hw
       cases hb:(decide (n=[]) && prev) with
       | true =>
        have HE:Hid (Mk.Y2 f names false=4):=by
         show _=_;rw[HD2.out,if_pos];rw[Bool.and_eq_true] at hb;exact⟨of_decide_eq_true hb.1,hb.2⟩
        clear hb HD2;go_wp2_with fail;go_ret;exact⟨z06 (by rw[HE.out]),BL2.out⟩
       | false =>
        have HD3:Hid (Mk.Y2 f names false=if Mk.Y2 kk (names++[n]) false ≠ 0 then Mk.Y2 kk (names++[n]) false else Mk.Y2 (f.drop (k + 1)) names (decide (n=[]))):=by
         show _=_;rw[HD2.out,if_neg];rintro ⟨q1,q2⟩;rw[decide_eq_true q1,q2] at hb;cases hb
        clear hb HD2 HP HEN;go_upto_region 9 with fail;have hsz2:=BL2.out.size;have hwz:wr.heap.size < w2.heap.size:=Blk.lt PB2.out;have hfr:∀ W,Below w2.heap.size w2 W→W.cell? ⟨wr.heap.size,0,none⟩=some (.string (st n))∧W.cell? ⟨wr.heap.size,3,none⟩=some (.slice aok kk.len capk):=fun W hW=>⟨(hW.cell (p:=⟨wr.heap.size,0,none⟩) hwz).trans p0,(hW.cell (p:=⟨wr.heap.size,3,none⟩) hwz).trans p3⟩
        have HFR:=Ld hfr;have hcl:∀ W,Below w2.heap.size w2 W→Calls prog 67 #[vn] W fun e w'=>∃ v',e=.returned v'∧w'.ownsRow W.heap.size 9 1 v' names.length (z09 names)∧Below W.heap.size W w':=fun W hW=>tr_Clone names vn K W (hvn.below hK (BL2.out.trans (hW.mono hsz2))) (by omega)
        have HCL:=Ld hcl;have hrc:∀ W v9,Below w2.heap.size w2 W→z18 W (fun b=>b < W.heap.size) v9 (names++[n])→Calls prog 46 #[.slice aok kk.len capk,v9] W fun e w'=>e=.returned (.int .i64 (Mk.Y2 kk (names++[n]) false))∧Below W.heap.size W w':=by
         intro W v9 hW hs9;have hb0:=BL2.out.trans (hW.mono hsz2);exact ih kk (names++[n]) _ v9 (fun b=>b < W.heap.size) W (by omega) (by rw[List.length_append,List.length_singleton];omega) ((HVK.out.below hK hb0).frame (fun b hb=>⟨Nat.lt_of_lt_of_le (hK b hb) hb0.size,rfl⟩)) hs9 (fun _ h=>h)
        have HRC:=Ld hrc;generalize Mk.Y2 kk (names++[n]) false=cr at HD3 HRC;obtain⟨i0,hi,hz0,hz1,hz2⟩:=info_parts Tryz.infoStr;have hnl9:names.length≤33554432:=by omega
        clear hfr hcl hrc hdb hkb
        go_region_held3 (fun w'=>w'.cell? ⟨wr.heap.size,0,none⟩=some (.string (st n))∧w'.cell? ⟨wr.heap.size,3,none⟩=some (.slice aok kk.len capk)) (first
         | exact HFR.out _ hB10
         | exact HFR.out _ hB9
         | exact HFR.out _ (hB7.alloc hB7.size _)
         | exact HFR.out _ hB7
         | exact HFR.out _ ((Below.refl _ _).drew)
         | exact HFR.out _ (((Below.refl _ _).drew).alloc (Lr) _)) (first | (go_at_call 67;refine(HCL.out _ ?_).mono ?_;(first | exact(Below.refl _ _).drew | exact((Below.refl _ _).drew).alloc (Lr) _);rintro e w7 ⟨v7,rfl,ow7,hb7⟩;have hB7:Below w2.heap.size w2 w7:=(by first | exact((Below.refl _ _).drew).trans (hb7.mono (Lr)) | exact(((Below.refl _ _).drew).alloc (Lr) _).trans (hb7.mono (by simp)));(try (have n0:w7.cell? ⟨w2.heap.size,0,none⟩=some (.string (st n)):=(hb7.cell (p:=⟨w2.heap.size,0,none⟩) (by simp)).trans (Blk.cell (Blk.new w2.drew 9 #[.string (st n)]) 0)))) | (refine Y7 rfl (.tmp 41) (.tmp 44) 105 rfl w2.drew.heap.size 9 i0 (.string ⟨#[]⟩) 1 16 underlying105 hi hz0 hz1 hz2 rfl (by decide) v7 names.length (z09 names) (by simp[Act.eval,Act.put]) (X8 ow7 ((Ap.refl (fun _=>False) w7).alloc (.cells #[.string (st n)] 9)) (fun _ _ q=>q)) ⟨w7.heap.size,0,none⟩ 1 1 [.string (st n)] (by simp[Act.eval,Act.put]) rfl (cell_one_new _ _ _) (one_cell _ rfl) (by decide) (by unfold maxLen;omega) (by omega) (by have:=hB7.size;simp;omega) ?_;intro v9 w9 hown9 hg9 hf9;have hB9:Below w2.heap.size w2 w9:=((hB7.alloc hB7.size (.cells #[.string (st n)] 9)).grown hg9 (by have:=hB7.size;simp;omega) (fun k9 hk9=>(ow7.lt k9 hk9).1));have SV9:z18 w9 (fun b=>b < w9.heap.size) v9 (names++[n]):=z18.of_own (B:=w2.heap.size) (e:=9) (by rw[List.length_append,show z09 (names++[n])=z09 names++[.string (st n)] by simp[z09]];exact⟨hown9.1,hown9.2.imp id (fun ⟨g9,c9,r9,h1,h2,h3⟩=>⟨g9,c9,r9,h1,Nat.le_trans (Lr) h2,h3⟩)⟩) (fun g9 hg9'=>(hown9.lt g9 hg9').2);obtain⟨ao9,cap9,rfl⟩:=Y1 hown9) | (refine Y7 rfl (.tmp 41) (.tmp 44) 105 rfl (w2.drew.alloc (.cells #[.string (st n)] 9)).heap.size 9 i0 (.string ⟨#[]⟩) 1 16 underlying105 hi hz0 hz1 hz2 rfl (by decide) v7 names.length (z09 names) (by simp[Act.eval,Act.put]) ow7 ⟨w2.heap.size,0,none⟩ 1 1 [.string (st n)] (by simp[Act.eval,Act.put]) rfl (fun j9 u9 h9=>by have e9:j9=0:=(by have q:=(List.getElem?_eq_some_iff.1 h9).1;simp at q;exact q);subst e9;have h9':Value.string (st n)=u9:=(by simpa using h9);rw[← h9'];exact n0) (one_cell _ rfl) (by decide) (by unfold maxLen;omega) (by omega) (by have:=hb7.size;simpa using this) ?_;intro v9 w9 hown9 hg9 hf9;have hB9:Below w2.heap.size w2 w9:=(hB7.grown hg9 hB7.size (fun k9 hk9=>Nat.le_trans (by simp) (ow7.lt k9 hk9).1));have SV9:z18 w9 (fun b=>b < w9.heap.size) v9 (names++[n]):=z18.of_own (B:=w2.heap.size) (e:=9) (by rw[List.length_append,show z09 (names++[n])=z09 names++[.string (st n)] by simp[z09]];exact⟨hown9.1,hown9.2.imp id (fun ⟨g9,c9,r9,h1,h2,h3⟩=>⟨g9,c9,r9,h1,Nat.le_trans (by simp) h2,h3⟩)⟩) (fun g9 hg9'=>(hown9.lt g9 hg9').2);obtain⟨ao9,cap9,rfl⟩:=Y1 hown9) | (go_at_call 46;refine(HRC.out _ _ hB9 SV9).mono ?_;rintro e w10 ⟨rfl,hb10⟩;have hB10:=hB9.trans (hb10.mono hB9.size)))
        all_goals
         have BL10:=Ld (BL2.out.trans (hB10.mono hsz2));clear hB10 hB9 hB7 SV9 HRC HCL HFR
         by_cases hr0:cr=0
         ·subst hr0
          have HA4:Hid (Mk.Y2 f names false=Mk.Y2 (f.drop (k + 1)) names (decide (n=[]))):=by show _=_;rw[HD3.out];simp
          clear HD3;go_wp2_with fail;go_roundw
          case rel=>exact⟨k + 1,decide (n=[]),by omega,by go_num,HA4,HP2,BL10⟩
          case measure=>simp[intOf];omega
         ·have hr1:(cr == 0)=false:=beq_eq_false_iff_ne.2 hr0
          go_wp2_with fail;go_ret;exact⟨z06 (by rw[HD3.out,if_pos hr0]),BL10.out⟩
     ·have hc1:(ce == 0)=false:=beq_eq_false_iff_ne.2 hc0
      go_wp2_with fail;go_ret;exact⟨z06 (by rw[HD.out,if_pos hc0]),BL2.out⟩
    ·have hke:k=f.len:=by omega
     have HE:Hid (Mk.Y2 f names false=0):=by show _=_;rw[HA.out,hke,Mk.Fo.z2v];rfl
     clear HA HAT;go_wp2_with fail;go_ret;exact⟨z06 HE.out.symm,BL.out⟩
  ·subst hnil
   subst hv1;clear HAT;go_enter func46,ntmps46;go_wp2_with fail
   go_loopw [11] (fun i wr=>i=.int .i64 0∧wr=w) (fun _ _=>0)
   case atStart=>exact⟨rfl,rfl⟩
   case round =>
    obtain⟨rfl,rfl⟩:=hrel;go_wp2_with fail;go_ret;exact⟨rfl,Below.refl _ _⟩
theorem q0a (f:Mk.Fo) (v:Value) (K:Nat→Prop) (w:World) (hf:f.bulk≤33554432) (hv:FoV w K v f) (hK:∀ b,K b→b < w.heap.size) :
  Calls prog 21 #[v] w fun e w'=>e=.returned (.int .i64 (Mk.z2h f))∧Below w.heap.size w w':=by
 have HS:=Ld (j6u (f.bulk + 1) f 8 v K w (Nat.lt_succ_self _) hf (Lr) hv hK);have HV:=Ld hv;obtain⟨ao,cap,xs,hv1,_⟩:=hv;subst hv1;have hsb:=Mk.z8w 8 f;have hc:Mk.z2h f=if 3000 < (Mk.z0i 8 f).1∨8 < (Mk.z0i 8 f).2 then 2 else Mk.Y2 f [] false:=rfl
 obtain⟨y,hy⟩:∃ y,Mk.z0i 8 f=y:=⟨_,rfl⟩;rw[hy] at HS hc hsb;obtain⟨y1,y2⟩:=y;simp only at HS hc hsb;have HC:=Ld hc;clear hc hy;have hst0:(3000:Int)=3000:=rfl;clear hst0;go_enter func21,ntmps21;go_wp2_with fail;refine HS.out.mono ?_;rintro e w1 ⟨rfl,hb1⟩;have L1:=Ld hb1;clear HS hb1
 by_cases h1:3000 < y1
 ·have h1':(3000:Int) < y1:=by omega
  go_wp2_with fail
  all_goals (go_ret;exact⟨z06 (by rw[HC.out,if_pos (.inl h1)]),L1.out⟩)
 ·have h1':¬ (3000:Int) < y1:=by omega
  by_cases h2:8 < y2
  ·have h2':(8:Int) < y2:=by omega
   go_wp2_with fail
   all_goals (go_ret;exact⟨z06 (by rw[HC.out,if_pos (.inr h2)]),L1.out⟩)
  ·have h2':¬ (8:Int) < y2:=by omega
   have HK:=Ld (tr_check (f.bulk + 1) f [] (.slice ao f.len cap) (.slice none 0 0) K w1 (Nat.lt_succ_self _) (by simpa using hf) (HV.out.below hK L1.out) (z18.nil _ _) (fun b hb=>Nat.lt_of_lt_of_le (hK b hb) L1.out.size));go_wp2_with fail;refine HK.out.mono ?_;rintro e w2 ⟨rfl,hb2⟩;have L2:=Ld (L1.out.trans (hb2.mono L1.out.size));clear HK hb2;go_wp2_with fail
   all_goals (go_ret;exact⟨z06 (by rw[HC.out,if_neg (by rintro (q | q);exact h1 q;exact h2 q)]),L2.out⟩)
end Go.Proofs.YtagleefekmdldaaGreatDoor
namespace Go.Proofs.YtagleefekmdldaaGreatDoor
open Go.RowKit

end Go.Proofs.YtagleefekmdldaaGreatDoor
