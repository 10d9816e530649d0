/- Contract of the token reader's method tag. Condition: a text of at most 1048576 bytes. -/
import Derived.Test.YtjonkbdldebkiaaGreatDoorYMkTree1
import Derived.Deep.RegionLaw
set_option linter.unusedVariables false
set_option linter.unusedSimpArgs false
namespace Go.Proofs.YtjonkbdldebkiaaGreatDoor
open Go.RowKit
theorem wp_append_fresh_step {P : Program} {w : World} {ops : Array Oper} {o : Oper} {a : Act} {K : Act→World→Prop} {Q : Exit→Act→World→Prop} {E : Prop} (hgd : o.guard = none) (s x : Operand) (t : TypeId)
  (ho : o.op = .call { callee:=.builtin .append,args:=#[s,x],argTypes:=#[t,t] })
  (base : Nat) (e : TypeId) (i : TypeInfo) (z : Value) (size bytes : Nat) (ht : P.underlying t = some (.slice e)) (hi : P.info? e = some i) (hz : i.zero = some z)
  (hsize : i.size = size) (hby : i.bytes = bytes) (hzs : z.cells.size = size) (hsz : 0 < size)
  (v : Value) (n : Nat) (xs : List Value) (hs : a.eval s = v) (hown : w.ownsRow base e size v n xs)
  (ad : Addr) (m c : Nat) (news : List Value) (hx : a.eval x = .slice (some ad) m c) (hl : news.length = m * size) (hnews : ∀ j u,news[j]? = some u→w.cell? (ad.add j) = some u) (h1 : ∀ u ∈ news,u.oneCell' = true)
  (hm0 : 0 < m) (h63 : n + m≤maxLen) (hbytes : (n + m) * bytes≤140737488355328) (hbase : base≤w.heap.size)
  (h : ∀ v' w',w'.ownsRow base e size v' (n + m) (xs++news)→w.grownBy w' v.ownBlock→(v'.ownBlock = v.ownBlock ∨ v'.ownBlock = some w.heap.size)→K (a.put o.dst v') w') :
  if Region.wanted o (yielded ops a.tmps) = true then Oper.wp P o a w K Q else E:=by
 have hw : Region.wanted o (yielded ops a.tmps) = true:=by simp [Region.wanted,hgd]
 rw [if_pos hw]
 obtain ⟨v',w',hr,h2,h3,_⟩:=run_append_own (P:=P) w base t o.type e i z size bytes ht hi hz hsize hby hzs hsz v n xs hown ad m c news hl hnews h1 h63 hbytes hbase
 have h5:=own_after_append base t o.type e i z size bytes ht hi hz hsize hby v n xs hown ad m c news hl hnews h1 hm0 h63 hbytes hr
 have hfin:=h v' w' h2 h3 h5
 unfold Oper.wp execOp
 simp only [ho,resolve,invoke,builtin,Sem.run_bind,Sem.run_pure,Result.andThen_ok,List.map_toArray,List.map_cons,List.map_nil,hs,hx,hr]
 exact hfin
theorem own_KT {w : World} {B C n : Nat} {v : Value} {xs : List Value} (h : w.ownsRow C 56 2 v n xs) (hC : B≤C) : ∀ g,v.ownBlock = some g→KT w B g:=by
 intro g hg
 rcases h.2 with ⟨hv,_⟩ | ⟨g',cap,cur,hv,hb,hh,_⟩
 ·rw [hv] at hg;cases hg
 ·rw [hv] at hg
  injection hg with hg
  have hg : g' = g:=hg
  subst hg
  exact ⟨Nat.le_trans hC hb,_,_,hh⟩
theorem RdO.frame {w w' : World} {B R : Nat} {s : ByteArray} {k : Nat} {tx : List UInt8} {ts : List Mk.Tok} {ov : Value} {xs : List Value} (h : RdO w B R s k tx ts ov xs) (hb : ∀ b,b < w.heap.size→b = R ∨ ov.ownBlock = some b ∨ KT w B b→w'.heap[b]? = w.heap[b]?) : RdO w' B R s k tx ts ov xs:=by
 refine ⟨h.hB,h.hBR,(hb R h.rlt (.inl rfl)).trans h.rd,⟨h.own.1,h.own.2.imp id ?_⟩,h.cells.frame fun b hk=>hk.keep (hb b hk.lt (.inr (.inr hk))),h.ne⟩
 rintro ⟨g,cap,cur,h1,h2,h3,h4⟩
 have e : ov.ownBlock = some g:=by rw [h1];rfl
 exact ⟨g,cap,cur,h1,h2,(hb g (h.own.lt g e).2 (.inr (.inl e))).trans h3,h4⟩
/-- a block of a token of its own, beside a reader. -/
theorem RdO.far {w : World} {B R : Nat} {s : ByteArray} {k : Nat} {tx : List UInt8} {ts : List Mk.Tok} {ov : Value} {xs : List Value} (h : RdO w B R s k tx ts ov xs) {P : Nat} {cs : Array Value} (hP : Blk w P 181 cs) (hR : P ≠ R) (ho : ov.ownBlock ≠ some P) (i : Nat) (v : Value) : RdO (w.setCell ⟨P,i,none⟩ v) B R s k tx ts ov xs:=by
 refine h.frame fun b _ hb=>Below.heap_setCell w ⟨P,i,none⟩ v b ?_
 rintro rfl
 rcases hb with e | e | e
 ·exact hR e
 ·exact ho e
 ·exact e.ne ⟨_,hP⟩ (by decide) rfl
theorem KT.far {w : World} {B P : Nat} {cs : Array Value} (hP : Blk w P 181 cs) (i : Nat) (v : Value) (b : Nat) (hb : KT w B b) : KT (w.setCell ⟨P,i,none⟩ v) B b∧(w.setCell ⟨P,i,none⟩ v).heap[b]? = w.heap[b]? :=
 hb.keep (Below.heap_setCell w ⟨P,i,none⟩ v b (fun e=>hb.ne ⟨_,hP⟩ (by decide) e))
theorem RdO.keepAp {w w' : World} {B R : Nat} {s : ByteArray} {k : Nat} {tx : List UInt8} {ts : List Mk.Tok} {ov : Value} {xs : List Value} (h : RdO w B R s k tx ts ov xs) (ha : Ap (fun b=>b = R ∨ ov.ownBlock = some b) w w') (b : Nat) (hb : KT w B b) : KT w' B b∧w'.heap[b]? = w.heap[b]?:=by
 refine hb.keep (ha.block b hb.lt ?_)
 rintro (e | e)
 ·exact hb.ne ⟨_,h.rd⟩ (by decide) e
 ·rcases h.own.2 with ⟨hv,_⟩ | ⟨g,cap,cur,hv,_,hh,_⟩
  ·rw [hv] at e;cases e
  ·rw [hv] at e
   injection e with e
   exact hb.ne ⟨_,hh⟩ (by decide) e.symm
theorem flush_len (tx : List UInt8) (ts : List Mk.Tok) : (Mk.flush tx ts).length≤ts.length + 1:=by
 show (if (Mk.take tx).1 = [] then ts else ts++[⟨1,[],[],(Mk.take tx).1⟩]).length≤ts.length + 1
 split
 ·omega
 ·rw [List.length_append];simp
/-- what a tag leaves. -/
def TagRes (H : Mk.Here) (e : Ending) (B R : Nat) (s : ByteArray) (k : Nat) (tx : List UInt8) (ts : List Mk.Tok) (w' : World) : Prop :=
 match H with
 | .text=>False
 | .stop=>e = Gave∧∃ j,RdS w' B R s j tx ts
 | .gone r=>e = .returned (.tuple #[])∧∃ j,j≤s.size∧k < j∧r = s.data.toList.drop j∧RdS w' B R s j tx ts
 | .tag t r=>e = .returned (.tuple #[])∧∃ j,j≤s.size∧k < j∧r = s.data.toList.drop j∧RdS w' B R s j [] (Mk.flush tx ts++[t])
section
variable {w : World} {B R : Nat} {s : ByteArray} {k : Nat} {tx : List UInt8} {ts : List Mk.Tok}
set_option maxHeartbeats 4000000 in
set_option maxRecDepth 100000 in
theorem rd_tag_open (hg : Gl w) (h : RdS w B R s k tx ts) (hk : k + 1≤s.size) (hs : s.size≤1048576) (htx : tx.length≤1048576) (hts : ts.length≤1048576) :
  Calls Tryz.prog 236 #[.pointer (some ⟨R,0,none⟩),.int .i64 2,.int .i64 1] w fun e w'=>TagRes (Mk.openAt (s.data.toList.drop (k + 1))) e B R s k tx ts w'∧Fr B w w':=by
 obtain ⟨ov,xs,h⟩:=h
 have c1:=h.rd.c1
 have f1:=h.rd.fz 1
 have hBl:=h.blt
 have hR2 : 4 < R:=Nat.le_trans h.hB h.hBR
 have H:=Lib.hid h
 clear h
 go_enter Tryz.func236,Tryz.ntmps236
 go_wp2_with fail
 have H1 : Hid (RdO (w.setCell ⟨R,1,none⟩ (.int .i64 ((k : Int) + 1))) B R s (k + 1) tx ts ov xs):=by show RdO _ _ _ _ _ _ _ _ _;have:=H.out.setAt (k + 1);simpa using this
 have L1 : Hid (Fr B w (w.setCell ⟨R,1,none⟩ (.int .i64 ((k : Int) + 1)))):=Fr.own H.out 1 _
 generalize (w.setCell ⟨R,1,none⟩ (.int .i64 ((k : Int) + 1))) = w1 at H1 L1 ⊢
 have e1:=adv s (k + 1) Mk.tagStop
 have l1:=adv_le s (k + 1) hk Mk.tagStop
 have hp:=rd_pass 270 #[] Mk.tagStop eg_tag1 H1.out.rd hk hs (fun w' _=>asks_tag1 w')
 obtain ⟨j1,hj1⟩ : ∃ j1,j1 = k + 1 + ((s.data.toList.drop (k + 1)).takeWhile Mk.tagStop).length:=⟨_,rfl⟩
 rw [← hj1] at e1 l1 hp
 have hkj : k + 1≤j1:=by omega
 have HO : Hid (Mk.openAt (s.data.toList.drop (k + 1)) = (match Mk.attrsOf (s.data.toList.drop j1) with | none=>.stop | some (l,rest)=>if Mk.isName (Mg.fold ((s.data.toList.drop (k + 1)).takeWhile Mk.tagStop)) then .tag ⟨2,Mg.fold ((s.data.toList.drop (k + 1)).takeWhile Mk.tagStop),l,[]⟩ rest else .gone rest)):=by
  show _ = _
  rw [e1];rfl
 have hnl : ((s.data.toList.drop (k + 1)).takeWhile Mk.tagStop).length≤1048576:=by
  have:=Mk.takeWhile_le Mk.tagStop (s.data.toList.drop (k + 1))
  rw [List.length_drop,bs_len] at this;omega
 generalize ((s.data.toList.drop (k + 1)).takeWhile Mk.tagStop) = raw at hp HO hnl
 clear e1 hj1 c1 f1
 refine hp.mono ?_
 rintro e w2 ⟨rfl,RD2,MV2⟩
 have H2:=Lib.hid (H1.out.next MV2.ap RD2)
 have L2:=Lib.hid (L1.out.trans (Fr.of_ap H1.out MV2.ap))
 clear hp RD2 MV2 H1 L1 H
 go_wp2_with fail
 refine (mk_Folded (st raw) _ (by rw [st_size];omega)).mono ?_
 rintro e w3 ⟨rfl,hb3⟩
 rw [bs_st]
 have H3:=Lib.hid (H2.out.below hb3)
 have L3:=Lib.hid (L2.out.trans (Fr.of_below H2.out hb3))
 have hnm : (Mg.fold raw).length≤1048576:=by rw [Mg.fold,List.length_map];exact hnl
 generalize Mg.fold raw = nm at HO hnm ⊢
 clear hb3 H2 L2
 go_upto_if 21 with fail
 have hb4:=(Below.refl _ w3).alloc (Nat.le_refl _) (.cells #[.int .i64 2,.string (st nm),.slice none 0 0,.string ⟨#[]⟩] 181)
 have PB4:=Lib.hid (Blk.new w3 181 #[.int .i64 2,.string (st nm),.slice none 0 0,.string ⟨#[]⟩])
 have H4:=Lib.hid (H3.out.below hb4)
 have L4:=Lib.hid (L3.out.trans (Fr.of_below H3.out hb4))
 have HPR:=Lib.hid (show w3.heap.size ≠ R by have:=H3.out.rlt;omega)
 have HPO:=Lib.hid (show ov.ownBlock ≠ some w3.heap.size from fun e=>by have:=(H3.out.own.lt _ e).2;omega)
 generalize w3.alloc (.cells #[.int .i64 2,.string (st nm),.slice none 0 0,.string ⟨#[]⟩] 181) = w4 at PB4 H4 L4 ⊢
 have HBP:=Lib.hid H3.out.blt
 generalize w3.heap.size = P at PB4 HPR HPO HBP ⊢
 have hB1 : 4 < B:=H4.out.hB
 have hg4:=hg.below L4.out.below hB1
 have HAT:=Lib.hid (rd_attrs hg4 hR2 H4.out.rd l1 hs)
 clear hb4 H3 L3 hg4
 go_wp2_with fail
 refine HAT.out.mono ?_
 rintro e w5 (⟨hno,rfl,⟨jj,RD5⟩,AP5⟩ | ⟨l,r,j2,v,hso,rfl,ow5,hj2,hjl,hll,hr,RD5,AP5⟩)
 ·rw [hno] at HO
  have H5:=Lib.hid (H4.out.next AP5 RD5)
  have L5:=Lib.hid (L4.out.trans (Fr.of_ap H4.out AP5))
  clear HAT RD5 AP5 hno
  go_wp2_with fail
  exact ⟨rfl,by rw [HO.out];exact ⟨rfl,_,_,_,H5.out⟩,L5.out⟩
 ·rw [hso] at HO
  simp only at HO
  obtain ⟨ao,cap,rfl⟩:=own_slice ow5
  have H5:=Lib.hid (H4.out.next AP5 RD5)
  have L5:=Lib.hid (L4.out.trans (Fr.of_ap H4.out AP5))
  have PB5:=Lib.hid (Blk.ap PB4.out AP5 HPR.out)
  have AT5:=Lib.hid (AtsV.of_own (K:=KT w5 B) ow5 (own_KT ow5 H4.out.blt))
  have c2 : w5.cell? ⟨P,2,none⟩ = some (.slice none 0 0):=Blk.cell PB5.out 2
  have f2:=Blk.frozen PB5.out 2
  have HR:=Lib.hid hr
  clear HAT RD5 AP5 hso ow5 H4 L4 PB4 hr
  go_upto_region 5 with fail
  have H6:=Lib.hid (H5.out.far PB5.out HPR.out HPO.out 2 (.slice ao l.length cap))
  have L6:=Lib.hid (L5.out.trans (Fr.tok PB5.out HBP.out 2 (.slice ao l.length cap)))
  have PB6:=Lib.hid (Blk.set_ PB5.out 2 (.slice ao l.length cap))
  have AT6:=Lib.hid (AT5.out.frame (KT.far PB5.out 2 (.slice ao l.length cap)))
  generalize w5.setCell ⟨P,2,none⟩ (.slice ao l.length cap) = w6 at H6 L6 PB6 AT6 ⊢
  clear H5 L5 PB5 AT5 c2 f2
  have c1 : w6.cell? ⟨P,1,none⟩ = some (.string (st nm)):=Blk.cell PB6.out 1
  have hN:=mk_Name (st nm) w6 (by rw [st_size];omega)
  rw [bs_st] at hN
  cases hin : Mk.isName nm with
  | false =>
   rw [hin] at hN HO
   have HN:=Lib.hid hN
   clear hN hin
   go_wp2_with fail
   refine HN.out.mono ?_
   rintro e w7 ⟨rfl,rfl⟩
   go_wp2_with fail
   go_end0
   exact ⟨by rw [HO.out];exact ⟨rfl,j2,hj2,by omega,HR.out,_,_,H6.out⟩,L6.out⟩
  | true =>
   rw [hin] at hN HO
   have HO2 : Hid (Mk.openAt (s.data.toList.drop (k + 1)) = .tag ⟨2,nm,l,[]⟩ r):=by show _ = _;rw [HO.out];simp
   have HN:=Lib.hid hN
   clear hN hin HO
   go_wp2_with fail
   refine HN.out.mono ?_
   rintro e w7 ⟨rfl,rfl⟩
   have hg7:=hg.below L6.out.below hB1
   have HFL:=Lib.hid (rd_flush hg7 H6.out htx hts)
   clear HN hg7 c1
   go_wp2_with fail
   refine HFL.out.mono ?_
   rintro e w8 ⟨rfl,⟨ov8,xs8,h8⟩,hb8,ha8⟩
   have H8:=Lib.hid h8
   have L8:=Lib.hid (L6.out.trans (Fr.of_push H6.out hb8 ha8))
   have PB8:=Lib.hid (Blk.ap PB6.out ha8 (fun q=>q.elim HPR.out HPO.out))
   have AT8:=Lib.hid (AT6.out.frame (H6.out.keepAp ha8))
   clear HFL h8 hb8 ha8 H6 L6 PB6 AT6
   have hfl:=flush_len tx ts
   go_upto_region 7 with fail
   have d3:=H8.out.rd.c3
   have p0 : w8.cell? ⟨P,0,none⟩ = some (.int .i64 2):=Blk.cell PB8.out 0
   have p1 : w8.cell? ⟨P,1,none⟩ = some (.string (st nm)):=Blk.cell PB8.out 1
   have p2 : w8.cell? ⟨P,2,none⟩ = some (.slice ao l.length cap):=Blk.cell PB8.out 2
   have p3 : w8.cell? ⟨P,3,none⟩ = some (.string ⟨#[]⟩):=Blk.cell PB8.out 3
   obtain ⟨i0,hi,hz0,hz1,hz2⟩:=info_parts Tryz.infoTok
   have hbl:=H8.out.blt
   have ow10:=own_ap' H8.out.own (((Ap.refl (fun _=>False) w8).drew).alloc (.cells #[.int .i64 2,.string (st nm),.slice ao l.length cap,.string ⟨#[]⟩] 181)) (fun _ _ q=>q)
   have hb11 : Below w8.heap.size w8 (w8.drew.alloc (.cells #[.int .i64 2,.string (st nm),.slice ao l.length cap,.string ⟨#[]⟩] 181)):=((Below.refl _ w8).drew).alloc (Nat.le_refl _) _
   have OW10:=Lib.hid ow10
   have HB11:=Lib.hid hb11
   clear ow10 hb11
   have d3a : (w8.alloc (.cells #[.int .i64 2,.string (st nm),.slice ao l.length cap,.string ⟨#[]⟩] 181)).cell? ⟨R,3,none⟩ = some ov8:=Blk.cell (Blk.alloc H8.out.rd _) 3
   go_region_law (refine wp_append_fresh_step rfl (.tmp 36) (.tmp 38) 63 rfl B 181 i0 (.agg #[.int .i64 0,.string ⟨#[]⟩,.slice none 0 0,.string ⟨#[]⟩]) 4 64 Tryz.underlying63 hi hz0 hz1 hz2 rfl (by decide) ov8 (Mk.flush tx ts).length xs8 (by simp [Act.eval,Act.put]) OW10.out ⟨w8.heap.size,0,none⟩ 1 1 [.int .i64 2,.string (st nm),.slice ao l.length cap,.string ⟨#[]⟩] (by simp [Act.eval,Act.put]) rfl (cells_new w8.drew _ _) (by intro u hu;simp at hu;rcases hu with rfl | rfl | rfl | rfl <;> rfl) (by decide) (by unfold maxLen;omega) (by omega) (by simp;omega) ?_;intro v' w10 hown' hgrow hfresh;have hpush:=Lib.hid (H8.out.push (t:=⟨2,nm,l,[]⟩) (va:=.slice ao l.length cap) AT8.out HB11.out hown' hgrow (hfresh.imp id (fun e=>by rw [e];simp)));have hR : Rd w10 R s j2 [] ov8:=(hgrow.block R (Nat.lt_of_lt_of_le H8.out.rlt HB11.out.size) (fun e=>H8.out.ne e.symm)).trans ((HB11.out.block R H8.out.rlt).trans H8.out.rd);have f3' : w10.frozen? ⟨R,3,none⟩ = false:=hR.fz 3;have c3' : w10.cell? ⟨R,3,none⟩ = some ov8:=hR.c3;obtain ⟨ao2,cap2,hv⟩:=own_slice hown';rw [hv] at hpush;clear hown' hgrow hfresh hR;rw [hv])
   all_goals
    go_wp2_with fail
    go_end0
    exact ⟨by rw [HO2.out];exact ⟨rfl,j2,hj2,by omega,HR.out,hpush.out.1⟩,L8.out.trans (Fr.of_push H8.out hpush.out.2.1 hpush.out.2.2)⟩
set_option maxHeartbeats 4000000 in
set_option maxRecDepth 100000 in
theorem rd_tag_close (hg : Gl w) (h : RdS w B R s k tx ts) (hk : k + 2≤s.size) (hs : s.size≤1048576) (htx : tx.length≤1048576) (hts : ts.length≤1048576) :
  Calls Tryz.prog 236 #[.pointer (some ⟨R,0,none⟩),.int .i64 3,.int .i64 2] w fun e w'=>TagRes (Mk.closeAt (s.data.toList.drop (k + 2))) e B R s k tx ts w'∧Fr B w w':=by
 obtain ⟨ov,xs,h⟩:=h
 have c1:=h.rd.c1
 have f1:=h.rd.fz 1
 have hBl:=h.blt
 have hR2 : 4 < R:=Nat.le_trans h.hB h.hBR
 have H:=Lib.hid h
 clear h
 go_enter Tryz.func236,Tryz.ntmps236
 go_wp2_with fail
 have H1 : Hid (RdO (w.setCell ⟨R,1,none⟩ (.int .i64 ((k : Int) + 2))) B R s (k + 2) tx ts ov xs):=by show RdO _ _ _ _ _ _ _ _ _;have:=H.out.setAt (k + 2);simpa using this
 have L1 : Hid (Fr B w (w.setCell ⟨R,1,none⟩ (.int .i64 ((k : Int) + 2)))):=Fr.own H.out 1 _
 generalize (w.setCell ⟨R,1,none⟩ (.int .i64 ((k : Int) + 2))) = w1 at H1 L1 ⊢
 have e1:=adv s (k + 2) Mk.tagStop
 have l1:=adv_le s (k + 2) hk Mk.tagStop
 have hp:=rd_pass 270 #[] Mk.tagStop eg_tag1 H1.out.rd hk hs (fun w' _=>asks_tag1 w')
 obtain ⟨j1,hj1⟩ : ∃ j1,j1 = k + 2 + ((s.data.toList.drop (k + 2)).takeWhile Mk.tagStop).length:=⟨_,rfl⟩
 rw [← hj1] at e1 l1 hp
 have hkj : k + 2≤j1:=by omega
 have HO : Hid (Mk.closeAt (s.data.toList.drop (k + 2)) = (match Mk.behind [62] (s.data.toList.drop j1) with | none=>.stop | some rest=>if Mk.isName (Mg.fold ((s.data.toList.drop (k + 2)).takeWhile Mk.tagStop)) then .tag ⟨3,Mg.fold ((s.data.toList.drop (k + 2)).takeWhile Mk.tagStop),[],[]⟩ rest else .gone rest)):=by
  show _ = _
  rw [e1];rfl
 have hnl : ((s.data.toList.drop (k + 2)).takeWhile Mk.tagStop).length≤1048576:=by
  have:=Mk.takeWhile_le Mk.tagStop (s.data.toList.drop (k + 2))
  rw [List.length_drop,bs_len] at this;omega
 generalize ((s.data.toList.drop (k + 2)).takeWhile Mk.tagStop) = raw at hp HO hnl
 clear e1 hj1 c1 f1
 refine hp.mono ?_
 rintro e w2 ⟨rfl,RD2,MV2⟩
 have H2:=Lib.hid (H1.out.next MV2.ap RD2)
 have L2:=Lib.hid (L1.out.trans (Fr.of_ap H1.out MV2.ap))
 clear hp RD2 MV2 H1 L1 H
 go_wp2_with fail
 refine (mk_Folded (st raw) _ (by rw [st_size];omega)).mono ?_
 rintro e w3 ⟨rfl,hb3⟩
 rw [bs_st]
 have H3:=Lib.hid (H2.out.below hb3)
 have L3:=Lib.hid (L2.out.trans (Fr.of_below H2.out hb3))
 have hnm : (Mg.fold raw).length≤1048576:=by rw [Mg.fold,List.length_map];exact hnl
 generalize Mg.fold raw = nm at HO hnm ⊢
 clear hb3 H2 L2
 go_upto_if 21 with fail
 have hb4:=(Below.refl _ w3).alloc (Nat.le_refl _) (.cells #[.int .i64 3,.string (st nm),.slice none 0 0,.string ⟨#[]⟩] 181)
 have PB4:=Lib.hid (Blk.new w3 181 #[.int .i64 3,.string (st nm),.slice none 0 0,.string ⟨#[]⟩])
 have H4:=Lib.hid (H3.out.below hb4)
 have L4:=Lib.hid (L3.out.trans (Fr.of_below H3.out hb4))
 have HPR:=Lib.hid (show w3.heap.size ≠ R by have:=H3.out.rlt;omega)
 have HPO:=Lib.hid (show ov.ownBlock ≠ some w3.heap.size from fun e=>by have:=(H3.out.own.lt _ e).2;omega)
 generalize w3.alloc (.cells #[.int .i64 3,.string (st nm),.slice none 0 0,.string ⟨#[]⟩] 181) = w4 at PB4 H4 L4 ⊢
 have HBP:=Lib.hid H3.out.blt
 generalize w3.heap.size = P at PB4 HPR HPO HBP ⊢
 have hB1 : 4 < B:=H4.out.hB
 have hg4:=hg.below L4.out.below hB1
 cases hbh : Mk.behind [62] (s.data.toList.drop j1) with
 | none =>
  rw [hbh] at HO
  have HAT:=Lib.hid (rd_to_none [62] 0 hg4 H4.out.rd l1 hs (by omega) (by decide) (by decide) hbh)
  clear hb4 H3 L3 hg4 hbh
  go_wp2_with fail
  refine HAT.out.mono ?_
  rintro e w5 ⟨rfl,n,rfl⟩
  have H5:=Lib.hid (H4.out.below (below_drewN (Below.refl _ w4) n))
  have L5:=Lib.hid (L4.out.drewN n)
  go_wp2_with fail
  exact ⟨rfl,by rw [HO.out];exact ⟨rfl,_,_,_,H5.out⟩,L5.out⟩
 | some r =>
  rw [hbh] at HO
  simp only at HO
  have HAT:=Lib.hid (rd_to_some [62] 0 hg4 H4.out.rd l1 hs (by omega) (by decide) (by decide) hbh)
  clear hb4 H3 L3 hg4 hbh
  go_wp2_with fail
  refine HAT.out.mono ?_
  rintro e w6 ⟨rfl,j2,hj2,hjl,hr,RD5,MV5⟩
  have H6:=Lib.hid (H4.out.next MV5.ap RD5)
  have L6:=Lib.hid (L4.out.trans (Fr.of_ap H4.out MV5.ap))
  have PB6:=Lib.hid (Blk.ap PB4.out MV5.ap HPR.out)
  have AT6:=Lib.hid (AtsV.nil w6 (KT w6 B))
  have HR:=Lib.hid hr
  clear HAT RD5 MV5 H4 L4 PB4 hr
  have c1 : w6.cell? ⟨P,1,none⟩ = some (.string (st nm)):=Blk.cell PB6.out 1
  have hN:=mk_Name (st nm) w6 (by rw [st_size];omega)
  rw [bs_st] at hN
  cases hin : Mk.isName nm with
  | false =>
   rw [hin] at hN HO
   have HN:=Lib.hid hN
   clear hN hin
   go_wp2_with fail
   refine HN.out.mono ?_
   rintro e w7 ⟨rfl,rfl⟩
   go_wp2_with fail
   go_end0
   exact ⟨by rw [HO.out];exact ⟨rfl,j2,hj2,by omega,HR.out,_,_,H6.out⟩,L6.out⟩
  | true =>
   rw [hin] at hN HO
   have HO2 : Hid (Mk.closeAt (s.data.toList.drop (k + 2)) = .tag ⟨3,nm,[],[]⟩ r):=by show _ = _;rw [HO.out];simp
   have HN:=Lib.hid hN
   clear hN hin HO
   go_wp2_with fail
   refine HN.out.mono ?_
   rintro e w7 ⟨rfl,rfl⟩
   have hg7:=hg.below L6.out.below hB1
   have HFL:=Lib.hid (rd_flush hg7 H6.out htx hts)
   clear HN hg7 c1
   go_wp2_with fail
   refine HFL.out.mono ?_
   rintro e w8 ⟨rfl,⟨ov8,xs8,h8⟩,hb8,ha8⟩
   have H8:=Lib.hid h8
   have L8:=Lib.hid (L6.out.trans (Fr.of_push H6.out hb8 ha8))
   have PB8:=Lib.hid (Blk.ap PB6.out ha8 (fun q=>q.elim HPR.out HPO.out))
   have AT8:=Lib.hid (AT6.out.frame (H6.out.keepAp ha8))
   clear HFL h8 hb8 ha8 H6 L6 PB6 AT6
   have hfl:=flush_len tx ts
   go_upto_region 7 with fail
   have d3:=H8.out.rd.c3
   have p0 : w8.cell? ⟨P,0,none⟩ = some (.int .i64 3):=Blk.cell PB8.out 0
   have p1 : w8.cell? ⟨P,1,none⟩ = some (.string (st nm)):=Blk.cell PB8.out 1
   have p2 : w8.cell? ⟨P,2,none⟩ = some (.slice none 0 0):=Blk.cell PB8.out 2
   have p3 : w8.cell? ⟨P,3,none⟩ = some (.string ⟨#[]⟩):=Blk.cell PB8.out 3
   obtain ⟨i0,hi,hz0,hz1,hz2⟩:=info_parts Tryz.infoTok
   have hbl:=H8.out.blt
   have ow10:=own_ap' H8.out.own (((Ap.refl (fun _=>False) w8).drew).alloc (.cells #[.int .i64 3,.string (st nm),.slice none 0 0,.string ⟨#[]⟩] 181)) (fun _ _ q=>q)
   have hb11 : Below w8.heap.size w8 (w8.drew.alloc (.cells #[.int .i64 3,.string (st nm),.slice none 0 0,.string ⟨#[]⟩] 181)):=((Below.refl _ w8).drew).alloc (Nat.le_refl _) _
   have OW10:=Lib.hid ow10
   have HB11:=Lib.hid hb11
   clear ow10 hb11
   have d3a : (w8.alloc (.cells #[.int .i64 3,.string (st nm),.slice none 0 0,.string ⟨#[]⟩] 181)).cell? ⟨R,3,none⟩ = some ov8:=Blk.cell (Blk.alloc H8.out.rd _) 3
   go_region_law (refine wp_append_fresh_step rfl (.tmp 36) (.tmp 38) 63 rfl B 181 i0 (.agg #[.int .i64 0,.string ⟨#[]⟩,.slice none 0 0,.string ⟨#[]⟩]) 4 64 Tryz.underlying63 hi hz0 hz1 hz2 rfl (by decide) ov8 (Mk.flush tx ts).length xs8 (by simp [Act.eval,Act.put]) OW10.out ⟨w8.heap.size,0,none⟩ 1 1 [.int .i64 3,.string (st nm),.slice none 0 0,.string ⟨#[]⟩] (by simp [Act.eval,Act.put]) rfl (cells_new w8.drew _ _) (by intro u hu;simp at hu;rcases hu with rfl | rfl | rfl | rfl <;> rfl) (by decide) (by unfold maxLen;omega) (by omega) (by simp;omega) ?_;intro v' w10 hown' hgrow hfresh;have hpush:=Lib.hid (H8.out.push (t:=⟨3,nm,[],[]⟩) (va:=.slice none 0 0) AT8.out HB11.out hown' hgrow (hfresh.imp id (fun e=>by rw [e];simp)));have hR : Rd w10 R s j2 [] ov8:=(hgrow.block R (Nat.lt_of_lt_of_le H8.out.rlt HB11.out.size) (fun e=>H8.out.ne e.symm)).trans ((HB11.out.block R H8.out.rlt).trans H8.out.rd);have f3' : w10.frozen? ⟨R,3,none⟩ = false:=hR.fz 3;have c3' : w10.cell? ⟨R,3,none⟩ = some ov8:=hR.c3;obtain ⟨ao2,cap2,hv⟩:=own_slice hown';rw [hv] at hpush;clear hown' hgrow hfresh hR;rw [hv])
   all_goals
    go_wp2_with fail
    go_end0
    exact ⟨by rw [HO2.out];exact ⟨rfl,j2,hj2,by omega,HR.out,hpush.out.1⟩,L8.out.trans (Fr.of_push H8.out hpush.out.2.1 hpush.out.2.2)⟩
end
end Go.Proofs.YtjonkbdldebkiaaGreatDoor

/- Contracts of the program's Attrs and node: what is wrong with attributes, and with a node by itself. Condition: at most 33554432 attributes and letters. -/
namespace Mk
theorem checkAts_step (q : Bs→Bool) (l : List At) (k : Nat) (h : k < l.length) : checkAts q (l.take k) (l.drop k) = if !q l[k].n then 1 else if hasAt (l.take k) l[k].n then 6 else checkAts q (l.take (k + 1)) (l.drop (k + 1)):=by
 rw [List.drop_eq_getElem_cons h,List.take_succ_eq_append_getElem h];rfl
end Mk
namespace Go.Proofs.YtjonkbdldebkiaaGreatDoor
open Go.RowKit
theorem AtsV.take {w : World} {K : Nat→Prop} {ao : Option Addr} {cap : Nat} {l : List Mk.At} (h : AtsV w K (.slice ao l.length cap) l) (i : Nat) (hi : i≤l.length) : AtsV w K (.slice ao i cap) (l.take i):=by
 obtain ⟨ao',cap',h1,h2,h3,h4⟩:=h
 injection h1 with e1 e2 e3
 subst e1;subst e3
 refine ⟨ao,cap,by rw [List.length_take,Nat.min_eq_left hi],?_,by rw [List.length_take];omega,by rw [List.length_take];omega⟩
 rcases h2 with h2 | ⟨g,o,e1,e2,e3⟩
 ·left
  have : l = []:=List.eq_nil_of_length_eq_zero (by have:=atCells_len l;rw [h2] at this;simp at this;omega)
  subst this
  simp [atCells]
 ·refine .inr ⟨g,o,e1,e2,fun k v hk=>e3 k v ?_⟩
  have hsplit : atCells l = atCells (l.take i)++atCells (l.drop i):=by
   rw [atCells,atCells,atCells,← List.flatMap_append,List.take_append_drop]
  rw [hsplit,List.getElem?_append_left]
  ·exact hk
  ·rcases Nat.lt_or_ge k (atCells (l.take i)).length with q | q
   ·exact q
   ·rw [List.getElem?_eq_none q] at hk;cases hk
theorem asks_Attrs1 (P : Nat) (nm : List UInt8) (l : List Mk.At) (w : World) (hP : P < w.heap.size) (hc : w.cell? ⟨P,0,none⟩ = some (.string (st nm))) : AsksA 219 #[.pointer (some ⟨P,0,none⟩)] (fun a=>a.n == nm) l w:=by
 intro w1 hb a _
 have c0 : w1.cell? ⟨P,0,none⟩ = some (.string (st nm)):=(hb.cell (p:=⟨P,0,none⟩) hP).trans hc
 have hP1 : P < w1.heap.size:=Nat.lt_of_lt_of_le hP hb.size
 unfold atV
 go_enter Tryz.func219,Tryz.ntmps219
 go_wp2_with fail
 go_ret
 exact ⟨ret_bool (by rw [show (st a.n).toList = a.n from Lib.toList_data _,show (st nm).toList = nm from Lib.toList_data _]),(Below.refl _ w1).alloc (Nat.le_refl _) _⟩
theorem eg_Attrs1 (args : Array Value) (w : World) : (callFunc 219 args).run Tryz.prog w = .ok (.enter 219 args) w:=run_callFunc_enter' Tryz.func219 (by kernel_rfl) rfl _ _
theorem eg_Name (args : Array Value) (w : World) : (callFunc 188 args).run Tryz.prog w = .ok (.enter 188 args) w:=run_callFunc_enter' Tryz.func188 (by kernel_rfl) rfl _ _

set_option maxHeartbeats 2000000 in
set_option maxRecDepth 100000 in
theorem mk_Attrs (l : List Mk.At) (v : Value) (K : Nat→Prop) (w : World) (hv : AtsV w K v l) (hK : ∀ b,K b→b < w.heap.size) (hl : Mk.Fo.atB l≤33554432) :
  Calls Tryz.prog 168 #[v,.func (.func 188) #[] #[]] w fun e w'=>e = .returned (.int .i64 (Mk.checkAts Mk.isName [] l))∧Below w.heap.size w w':=by
 have hll:=Mk.atB_len l
 obtain ⟨b,o,cap,hKb,hv1,hcl⟩:=hv.at_
 have HC:=Lib.hid hcl
 have EG:=Lib.hid eg_Name
 clear hcl
 have eg:=eg_Name
 rcases hv1 with hv1 | ⟨ao,hv1,hl0⟩
 ·subst hv1
  have hcap : l.length≤cap:=by
   obtain ⟨ao',cap',h1,_,h3,_⟩:=hv
   injection h1 with _ _ e3
   rw [e3];exact h3
  go_enter Tryz.func168,Tryz.ntmps168
  go_wp2_with fail
  go_loopw [9] (fun i wr=>∃ k : Nat,k≤l.length∧i = .int .i64 k∧Hid (Mk.checkAts Mk.isName [] l = Mk.checkAts Mk.isName (l.take k) (l.drop k))∧Hid (Below w.heap.size w wr)) (fun i _=>l.length - (intOf i).toNat)
  case atStart=>exact ⟨0,Nat.zero_le _,rfl,rfl,Below.refl _ _⟩
  case round =>
   obtain ⟨k,hk,rfl,HA,BL⟩:=hrel
   have hsz:=BL.out.size
   by_cases hlt : k < l.length
   ·have hb : b < w.heap.size:=hK b (hKb (by intro e;subst e;simp at hlt))
    obtain ⟨c0,c1⟩:=HC.out k hlt
    rw [← BL.out.cell (p:=⟨b,_,none⟩) hb] at c0 c1
    have hmem:=Mk.atB_mem (List.getElem_mem hlt)
    have HD : Hid (Mk.checkAts Mk.isName [] l = if !Mk.isName l[k].n then 1 else if Mk.hasAt (l.take k) l[k].n then 6 else Mk.checkAts Mk.isName (l.take (k + 1)) (l.drop (k + 1))):=by show _ = _;rw [HA.out,Mk.checkAts_step _ _ _ hlt]
    generalize l[k] = a at c0 c1 HD hmem
    have hnm:=fun W=>mk_Name (st a.n) W (by rw [st_size];omega)
    rw [bs_st] at hnm
    have hal:=(Below.refl wr.heap.size wr).alloc (Nat.le_refl _) (.cells #[.string (st a.n),.string (st a.v)] 56)
    have PB:=Lib.hid (Blk.new wr 56 #[.string (st a.n),.string (st a.v)])
    have BL1:=Lib.hid (BL.out.trans (hal.mono hsz))
    cases hin : Mk.isName a.n with
    | false =>
     rw [hin] at HD hnm
     have HN:=Lib.hid hnm
     clear hnm hin HC HA hal
     go_wp2_with fail
     refine (HN.out _).mono ?_
     rintro e w2 ⟨rfl,rfl⟩
     go_wp2_with fail
     go_ret
     exact ⟨by rw [HD.out];rfl,BL1.out⟩
    | true =>
     rw [hin] at HD hnm
     have HN:=Lib.hid hnm
     obtain ⟨hh,hhe⟩ : ∃ hh,Mk.hasAt (l.take k) a.n = hh:=⟨_,rfl⟩
     rw [hhe] at HD
     have hvw : AtsV (wr.alloc (.cells #[.string (st a.n),.string (st a.v)] 56)) K (.slice (some ⟨b,o,none⟩) k cap) (l.take k):=(AtsV.take hv k hk).below hK BL1.out
     have hcf:=sl_ContainsFunc 219 #[.pointer (some ⟨wr.heap.size,0,none⟩)] (fun x=>x.n == a.n) eg_Attrs1 (l.take k) (.slice (some ⟨b,o,none⟩) k cap) K _ hvw (fun b hb=>Nat.lt_of_lt_of_le (hK b hb) BL1.out.size) (by rw [List.length_take];omega) (asks_Attrs1 wr.heap.size a.n (l.take k) _ (Blk.lt PB.out) (Blk.cell PB.out 0))
     rw [show (l.take k).any (fun x=>x.n == a.n) = hh from hhe] at hcf
     have HCF:=Lib.hid hcf
     have hkc : (k : Int)≤cap:=by omega
     have hk0 : (0 : Int)≤k:=by omega
     clear hnm hin HC HA hal hvw hcf hhe
     cases hh with
     | true =>
      go_wp2_with fail
      refine (HN.out _).mono ?_
      rintro e w2 ⟨rfl,rfl⟩
      go_wp2_with fail
      refine HCF.out.mono ?_
      rintro e w3 ⟨rfl,hb3⟩
      have BL3:=Lib.hid (BL1.out.trans (hb3.mono BL1.out.size))
      clear hb3 HCF
      go_wp2_with fail
      go_ret
      exact ⟨by rw [HD.out];rfl,BL3.out⟩
     | false =>
      go_wp2_with fail
      refine (HN.out _).mono ?_
      rintro e w2 ⟨rfl,rfl⟩
      go_wp2_with fail
      refine HCF.out.mono ?_
      rintro e w3 ⟨rfl,hb3⟩
      have BL3:=Lib.hid (BL1.out.trans (hb3.mono BL1.out.size))
      clear hb3 HCF
      go_wp2_with fail
      go_roundw
      case rel=>exact ⟨k + 1,by omega,by go_num,by show _ = _;rw [HD.out];rfl,BL3⟩
      case measure=>simp [intOf];omega
   ·have hke : k = l.length:=by omega
    have HE : Hid (Mk.checkAts Mk.isName [] l = 0):=by show _ = _;rw [HA.out,List.drop_of_length_le (by omega)];rfl
    clear HA HC
    go_wp2_with fail
    go_ret
    exact ⟨by rw [HE.out];rfl,BL.out⟩
 ·subst hl0
  subst hv1
  clear HC hK
  go_enter Tryz.func168,Tryz.ntmps168
  go_wp2_with fail
  go_loopw [9] (fun i wr=>i = .int .i64 0∧wr = w) (fun _ _=>0)
  case atStart=>exact ⟨rfl,rfl⟩
  case round =>
   obtain ⟨rfl,rfl⟩:=hrel
   go_wp2_with fail
   go_ret
   exact ⟨rfl,Below.refl _ _⟩
def nodeV (n : List UInt8) (va : Value) (t : List UInt8) (vk : Value) : Value:=.agg #[.string (st n),va,.string (st t),vk]
theorem Fo_len_pos (k : Mk.Fo) (h : k ≠ .nil) : 0 < k.len:=by
 cases k with
 | nil=>exact absurd rfl h
 | node _ _ _ _ _=>exact Nat.succ_pos _
set_option maxHeartbeats 4000000 in
set_option maxRecDepth 100000 in
theorem tr_node (names : List (List UInt8)) (n t : List UInt8) (a : List Mk.At) (k : Mk.Fo) (va vk vn : Value) (K : Nat→Prop) (w : World) (hva : AtsV w K va a) (hvk : FoV w K vk k) (hvn : StrsV w K vn names) (hK : ∀ b,K b→b < w.heap.size) (hnl : n.length≤33554432) (hl : Mk.Fo.atB a≤33554432) (hnm : names.length≤33554432) :
  Calls Tryz.prog 194 #[nodeV n va t vk,vn] w fun e w'=>e = .returned (.int .i64 (Mk.nodeE names n a t k))∧Below w.heap.size w w':=by
 have hst : ∀ l : List UInt8,(st l).toList = l:=fun l=>Lib.toList_data _
 obtain ⟨aoa,capa,hva1,hva2⟩:=id hva
 obtain ⟨aok,capk,xsk,hvk1,hvk2⟩:=id hvk
 subst hva1
 subst hvk1
 have hll:=Mk.atB_len a
 have hkl:=hvk2.2.2
 have hkm : (maxLen : Int)≤9223372036854775807:=by unfold maxLen;omega
 have hal:=(Below.refl w.heap.size w).alloc (Nat.le_refl _) (.cells #[.string (st n),.slice aoa a.length capa,.string (st t),.slice aok k.len capk] 53)
 have AL:=Lib.hid hal
 clear hal hvk2 hvk
 unfold nodeV
 generalize hla : a.length = la at *
 generalize hlk : k.len = lk at *
 have HLA:=Lib.hid hla
 have HLK:=Lib.hid hlk
 clear hla hlk hkl
 have tE : ∀ l : List UInt8,l ≠ []→l.isEmpty = false:=fun l h=>by
  cases l with
  | nil=>exact absurd rfl h
  | cons _ _=>rfl
 have TE:=Lib.hid tE
 clear tE
 by_cases hn : n = []
 ·subst hn
  have hst0 : (st []).toList = []:=Lib.toList_data _
  have e0 : ([] : List UInt8).isEmpty = true:=rfl
  by_cases ht : t = []
  ·have HE : Hid (Mk.nodeE names [] a t k = 1):=by show _ = _;simp [Mk.nodeE,ht]
   subst ht
   go_enter Tryz.func194,Tryz.ntmps194
   go_wp2_with fail
   go_ret
   exact ⟨ret_int (by rw [HE.out]),AL.out⟩
  ·have ht2:=TE.out t ht
   by_cases ha : a = []
   ·by_cases hk : k = .nil
    ·have HE : Hid (Mk.nodeE names [] a t k = 0):=by show _ = _;simp [Mk.nodeE,ht,ha,hk]
     have ha2 : ¬ 0 < la:=by rw [← HLA.out,ha];simp
     have hk2 : ¬ 0 < lk:=by rw [← HLK.out,hk];simp [Mk.Fo.len]
     clear ha hk
     go_enter Tryz.func194,Tryz.ntmps194
     go_wp2_with fail
     go_ret
     exact ⟨ret_int (by rw [HE.out]),AL.out⟩
    ·have HE : Hid (Mk.nodeE names [] a t k = 1):=by show _ = _;simp [Mk.nodeE,hk]
     have ha2 : ¬ 0 < la:=by rw [← HLA.out,ha];simp
     have hk2 : 0 < lk:=by rw [← HLK.out];exact Fo_len_pos k hk
     clear ha hk
     go_enter Tryz.func194,Tryz.ntmps194
     go_wp2_with fail
     go_ret
     exact ⟨ret_int (by rw [HE.out]),AL.out⟩
   ·have HE : Hid (Mk.nodeE names [] a t k = 1):=by show _ = _;simp [Mk.nodeE,ha]
    have ha2 : 0 < la:=by rw [← HLA.out];exact List.length_pos_iff.2 ha
    go_enter Tryz.func194,Tryz.ntmps194
    go_wp2_with fail
    go_ret
    exact ⟨ret_int (by rw [HE.out]),AL.out⟩
 ·have hn2:=TE.out n hn
  by_cases ht : t = []
  ·subst ht
   have hst0 : (st []).toList = []:=Lib.toList_data _
   have e0 : ([] : List UInt8).isEmpty = true:=rfl
   have hnm1:=fun W=>mk_Name (st n) W (by rw [st_size];exact hnl)
   rw [bs_st] at hnm1
   have hem:=fun W=>tr_Empty n W
   obtain ⟨bn,hbn⟩ : ∃ b,Mk.isName n = b:=⟨_,rfl⟩
   obtain ⟨be,hbe⟩ : ∃ b,Mk.emptyB n = b:=⟨_,rfl⟩
   rw [hbn] at hnm1
   rw [hbe] at hem
   have HN:=Lib.hid hnm1
   have HM:=Lib.hid hem
   clear hnm1 hem
   cases bn with
   | false =>
    have HE : Hid (Mk.nodeE names n a [] k = 1):=by show _ = _;simp [Mk.nodeE,hn,hbn]
    clear hbn hbe
    go_enter Tryz.func194,Tryz.ntmps194
    go_wp2_with fail
    refine (HN.out _).mono ?_
    rintro e w1 ⟨rfl,rfl⟩
    go_wp2_with fail
    go_ret
    exact ⟨ret_int (by rw [HE.out]),AL.out⟩
   | true =>
    have REST : (be = false ∨ k = .nil)→Mk.nodeE names n a [] k = (if Mk.checkAts Mk.isName [] a ≠ 0 then Mk.checkAts Mk.isName [] a else if Mk.stays names n < names.length then 4 else 0):=by
     intro h
     have : ¬ (([] : List UInt8) ≠ [] ∨ (!Mk.isName n) = true ∨ (Mk.emptyB n = true∧k ≠ .nil)):=by
      rw [hbn,hbe]
      rintro (q | q | ⟨q,q2⟩)
      ·exact q rfl
      ·cases q
      ·rcases h with h | h
       ·rw [h] at q;cases q
       ·exact q2 h
     unfold Mk.nodeE
     rw [if_neg hn,if_neg this]
    have AA:=mk_Attrs a (.slice aoa la capa) K
    have HAA:=Lib.hid AA
    have HREST:=Lib.hid REST
    clear AA REST
    obtain ⟨ce,hce⟩ : ∃ c,Mk.checkAts Mk.isName [] a = c:=⟨_,rfl⟩
    obtain ⟨sn,hsn⟩ : ∃ c,Mk.stays names n = c:=⟨_,rfl⟩
    rw [hce,hsn] at HREST
    rw [hce] at HAA
    have HSN:=Lib.hid hsn
    clear hce hsn
    cases be with
    | true =>
     by_cases hk : k = .nil
     ·have hk2 : ¬ 0 < lk:=by rw [← HLK.out,hk];simp [Mk.Fo.len]
      have HE:=Lib.hid (HREST.out (.inr hk))
      clear HREST hbn hbe hk
      go_enter Tryz.func194,Tryz.ntmps194
      go_wp2_with fail
      refine (HN.out _).mono ?_
      rintro e w1 ⟨rfl,hw1⟩
      rw [hw1]
      clear hw1 w1
      go_wp2_with fail
      refine (HM.out _).mono ?_
      rintro e w2 ⟨rfl,hw2⟩
      rw [hw2]
      clear hw2 w2
      have HA:=Lib.hid (HAA.out (w.alloc (.cells #[.string (st n),.slice aoa la capa,.string (st []),.slice aok lk capk] 53)) (hva.below hK AL.out) (fun b hb=>Nat.lt_of_lt_of_le (hK b hb) AL.out.size) hl)
      clear HAA
      go_wp2_with fail
      refine HA.out.mono ?_
      rintro e w3 ⟨rfl,hb3⟩
      have L3:=Lib.hid (AL.out.trans (hb3.mono AL.out.size))
      have PB:=Lib.hid (Blk.below (Blk.new w 53 #[.string (st n),.slice aoa la capa,.string (st []),.slice aok lk capk]) hb3 (Blk.lt (Blk.new w _ _)))
      have p0 : w3.cell? ⟨w.heap.size,0,none⟩ = some (.string (st n)):=Blk.cell PB.out 0
      have HS:=Lib.hid (tr_stays names n vn K w3 (hvn.below hK L3.out) hnm)
      rw [HSN.out] at HS
      clear hb3 HA
      by_cases hc0 : ce = 0
      ·subst hc0
       obtain ⟨aon,capn,hvn1,_⟩:=hvn
       subst hvn1
       go_wp2_with fail
       refine HS.out.mono ?_
       rintro e w4 ⟨rfl,rfl⟩
       by_cases hlt : sn < names.length
       ·have hlt2 : (sn : Int) < names.length:=by omega
        go_wp2_with fail
        go_ret
        exact ⟨ret_int (by rw [HE.out,if_neg (by simp),if_pos hlt]),L3.out⟩
       ·have hlt2 : ¬ (sn : Int) < names.length:=by omega
        go_wp2_with fail
        go_ret
        exact ⟨ret_int (by rw [HE.out,if_neg (by simp),if_neg hlt]),L3.out⟩
      ·have hc1 : (ce == 0) = false:=beq_eq_false_iff_ne.2 hc0
       go_wp2_with fail
       go_ret
       exact ⟨ret_int (by rw [HE.out,if_pos hc0]),L3.out⟩
     ·have HE : Hid (Mk.nodeE names n a [] k = 1):=by show _ = _;simp [Mk.nodeE,hn,hbn,hbe,hk]
      have hk2 : 0 < lk:=by rw [← HLK.out];exact Fo_len_pos k hk
      clear hbn hbe HREST HAA
      go_enter Tryz.func194,Tryz.ntmps194
      go_wp2_with fail
      refine (HN.out _).mono ?_
      rintro e w1 ⟨rfl,rfl⟩
      go_wp2_with fail
      refine (HM.out _).mono ?_
      rintro e w2 ⟨rfl,rfl⟩
      go_wp2_with fail
      go_ret
      exact ⟨ret_int (by rw [HE.out]),AL.out⟩
    | false =>
     have HE:=Lib.hid (HREST.out (.inl rfl))
     clear HREST hbn hbe
     go_enter Tryz.func194,Tryz.ntmps194
     go_wp2_with fail
     refine (HN.out _).mono ?_
     rintro e w1 ⟨rfl,hw1⟩
     rw [hw1]
     clear hw1 w1
     go_wp2_with fail
     refine (HM.out _).mono ?_
     rintro e w2 ⟨rfl,hw2⟩
     rw [hw2]
     clear hw2 w2
     have HA:=Lib.hid (HAA.out (w.alloc (.cells #[.string (st n),.slice aoa la capa,.string (st []),.slice aok lk capk] 53)) (hva.below hK AL.out) (fun b hb=>Nat.lt_of_lt_of_le (hK b hb) AL.out.size) hl)
     clear HAA
     go_wp2_with fail
     refine HA.out.mono ?_
     rintro e w3 ⟨rfl,hb3⟩
     have L3:=Lib.hid (AL.out.trans (hb3.mono AL.out.size))
     have PB:=Lib.hid (Blk.below (Blk.new w 53 #[.string (st n),.slice aoa la capa,.string (st []),.slice aok lk capk]) hb3 (Blk.lt (Blk.new w _ _)))
     have p0 : w3.cell? ⟨w.heap.size,0,none⟩ = some (.string (st n)):=Blk.cell PB.out 0
     have HS:=Lib.hid (tr_stays names n vn K w3 (hvn.below hK L3.out) hnm)
     rw [HSN.out] at HS
     clear hb3 HA
     by_cases hc0 : ce = 0
     ·subst hc0
      obtain ⟨aon,capn,hvn1,_⟩:=hvn
      subst hvn1
      go_wp2_with fail
      refine HS.out.mono ?_
      rintro e w4 ⟨rfl,rfl⟩
      by_cases hlt : sn < names.length
      ·have hlt2 : (sn : Int) < names.length:=by omega
       go_wp2_with fail
       go_ret
       exact ⟨ret_int (by rw [HE.out,if_neg (by simp),if_pos hlt]),L3.out⟩
      ·have hlt2 : ¬ (sn : Int) < names.length:=by omega
       go_wp2_with fail
       go_ret
       exact ⟨ret_int (by rw [HE.out,if_neg (by simp),if_neg hlt]),L3.out⟩
     ·have hc1 : (ce == 0) = false:=beq_eq_false_iff_ne.2 hc0
      go_wp2_with fail
      go_ret
      exact ⟨ret_int (by rw [HE.out,if_pos hc0]),L3.out⟩
  ·have HE : Hid (Mk.nodeE names n a t k = 1):=by show _ = _;simp [Mk.nodeE,hn,ht]
   have ht2:=TE.out t ht
   go_enter Tryz.func194,Tryz.ntmps194
   go_wp2_with fail
   go_ret
   exact ⟨ret_int (by rw [HE.out]),AL.out⟩
end Go.Proofs.YtjonkbdldebkiaaGreatDoor
