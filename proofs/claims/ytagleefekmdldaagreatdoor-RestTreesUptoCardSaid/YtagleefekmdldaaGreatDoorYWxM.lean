/- Contract of the strict reader's method kids, where elements are read as they must be; so element's and kids' contracts at any text. Condition: a text of at most 100000 bytes. -/
import Derived.Test.YtagleefekmdldaaGreatDoorYWxJ
import Derived.Test.YtagleefekmdldaaGreatDoorYMkTok7
set_option linter.unusedVariables false
set_option linter.unusedSimpArgs false
set_option maxHeartbeats 16000000
set_option maxRecDepth 100000
namespace Go.Proofs.YtagleefekmdldaaGreatDoor
open Go.Proofs.Tryz Go.RowKit
structure KdI (w wx:World) (R:Nat) (s:ByteArray) (j:Nat) (u:Value) (f:Mk.Fo) (xs:List Value) (K:Nat→Prop):Prop where
 rl:R < w.heap.size
 x:Xr wx R s j
 ap:Ap (fun b=>b=R) w wx
 ow:OwnF wx w.heap.size K u f xs
 kr:∀ b,K b→w.heap.size≤b
section
variable {w wx wy wz : World} {R : Nat} {s : ByteArray} {j j' : Nat} {u : Value} {f : Mk.Fo} {xs : List Value} {K : Nat→Prop}
theorem ap_own {S:Nat→Prop} (h:Ap (fun b=>b=R) w wy) (k:Ap S wy wz) (hS:∀ b,S b→w.heap.size≤b):Ap (fun b=>b=R) w wz :=
 ⟨k.os.trans h.os,k.tape.trans h.tape,k.output.trans h.output,Nat.le_trans h.size k.size,fun i hi hn=>(k.block i (Nat.lt_of_lt_of_le hi h.size) (fun q=>by have:=hS i q;omega)).trans (h.block i hi hn)⟩
theorem KdI.ap2 (h:KdI w wx R s j u f xs K) (ha:Ap (fun b=>b=R) wx wy) (hx:Xr wy R s j'):KdI w wy R s j' u f xs K:=by
 have hr:=h.rl;refine⟨hr,hx,h.ap.trans ha,h.ow.frame ha.size (fun b hb q=>ha.block b hb (fun e=>?_)),h.kr⟩;have e:b=R:=e
 rcases q with q | q
 ·have:=h.kr b q;omega
 ·have:=(h.ow.own.lt b q).1;omega
theorem KdI.moved (h:KdI w wx R s j u f xs K) (hm:Moved R wx wy) (hx:Xr wy R s j'):KdI w wy R s j' u f xs K:=h.ap2 hm.ap hx
theorem KdI.drewN (h:KdI w wx R s j u f xs K) (n:Nat):KdI w (wx.drewN n) R s j u f xs K:=h.moved ((Moved.refl R wx).drewN n) (h.x.drewN n)
theorem KdI.below (h:KdI w wx R s j u f xs K) (hb:Below wx.heap.size wx wy):KdI w wy R s j u f xs K:=h.ap2 (Ap.of_below hb) ((hb.block R (Blk.lt h.x)).trans h.x)
theorem KdI.gl (h:KdI w wx R s j u f xs K) (hg:Gl w) (hR:1 < R):Gl wx:=hg.ap h.ap (by intro e;have e:0=R:=e;omega) (by intro e;have e:1=R:=e;omega)
theorem KdI.text (h:KdI w wx R s j u f xs K) {v':Value} {f':Mk.Fo} {xs':List Value} (ho:OwnF wy w.heap.size K v' f' xs') (ha:Ap (fun b=>u.ownBlock=some b) wx wy):KdI w wy R s j v' f' xs' K:=by
 have hr:=h.rl;have hS:∀ b,u.ownBlock=some b→w.heap.size≤b:=fun b q=>(h.ow.own.lt b q).1
 exact⟨hr,(ha.block R (Blk.lt h.x) (fun q=>by have:=hS R q;omega)).trans h.x,ap_own h.ap ha hS,ho,h.kr⟩
theorem KdI.push (h:KdI w wx R s j u f xs K) (hap:Ap (fun b=>b=R) wx wy) (hx:Xr wy R s j') {n:List UInt8} {a:List Mk.At} {k:Mk.Fo} {va:Value} {ao:Option Addr} {cap:Nat} {v':Value} {w1 w2:World} (hva:AtsV wy (Nw wx wy) va a) (hvk:FoV wy (Nw wx wy) (.slice ao k.len cap) k) (hn:n ≠ []) (h1:Below wy.heap.size wy w1)
  (hown:w2.ownsRow w.heap.size 38 4 v' (f.len + 1) (xs++[.string (st n),va,.string (st []),.slice ao k.len cap])) (hgr:w1.grownBy w2 u.ownBlock) (hf:v'.ownBlock=u.ownBlock∨v'.ownBlock=some w1.heap.size) :
  KdI w w2 R s j' v' (f.app (.node n a [] k .nil)) (xs++[.string (st n),va,.string (st []),.slice ao k.len cap]) (fun b=>K b∨Nw wx wy b):=by
 have h2:=h.ap2 hap hx;have hr:=h.rl;have hS:∀ b,u.ownBlock=some b→w.heap.size≤b:=fun b q=>(h.ow.own.lt b q).1
 have OF:OwnF wy w.heap.size (fun b=>K b∨Nw wx wy b) u f xs:=by
  refine⟨h2.ow.own,h2.ow.cells.frame (fun b hb=>⟨.inl hb,rfl⟩),?_,?_⟩
  ·intro g hg
   rintro (q | q)
   ·exact h.ow.ne g hg q
   ·have:=(h.ow.own.lt g hg).2;have:=q.1;omega
  ·rintro b (q | q)
   ·exact h2.ow.le b q
   ·exact q.2
 have hm:f.merges n=false:=by
  rw[Bool.eq_false_iff];intro q;exact hn ((Mk.Fo.Y5 _ _).1 q).1
 obtain⟨ao',cap',zs,e1,e2,e3,e4⟩:=hvk;injection e1 with g1 g2 g3;subst g1;subst g3;have hsn:Mk.Fo.snoc n a [] k f=f.app (.node n a [] k .nil):=Mk.Fo.q08 n a [] k f (fun q=>hn q.1);have kp:∀ b,Nw wx wy b→(K b∨Nw wx wy b)∧wy.heap[b]? = wy.heap[b]?:=fun b hb=>⟨.inr hb,rfl⟩
 have P:=OF.pushed (n:=n) (t:=[]) (k:=k) (hva.frame kp) (e2.frame kp) e4 (e3.frame kp) hm h1 hown hgr hf;rw[hsn] at P;have A1:Ap (fun b=>b=R) w w1:=h2.ap.trans (Ap.of_below h1);have A2:Ap (fun b=>b=R) w w2:=⟨hgr.os.trans A1.os,hgr.tape.trans A1.tape,hgr.output.trans A1.output,Nat.le_trans A1.size hgr.size,fun i hi hnr=>(hgr.block i (Nat.lt_of_lt_of_le hi A1.size) (fun e=>by have:=hS i e.symm;omega)).trans (A1.block i hi hnr)⟩;refine⟨hr,?_,A2,P,?_⟩
 ·have hRy:=Blk.lt hx
  exact(hgr.block R (Nat.lt_of_lt_of_le hRy h1.size) (fun e=>by have:=hS R e.symm;omega)).trans ((h1.block R hRy).trans hx)
 ·rintro b (q | q)
  ·exact h.kr b q
  ·exact Nat.le_trans h.ap.size q.1
theorem z95 (p:List UInt8) (h:KdI w wx R s j u f xs K) (hk:j≤s.size) (hs:s.size≤100000) :
  Calls prog 101 #[.pointer (some ⟨R,0,none⟩),.string (st p)] wx fun e w'=>e=.returned (.bool (Mg.pre p (s.data.toList.drop j)))∧KdI w w' R s j u f xs K:=by
 refine(z4l p h.x hk (by omega)).mono ?_;rintro e w1 ⟨rfl,n,hw⟩;subst hw;exact⟨rfl,h.drewN n⟩
end
theorem j7b {s:ByteArray} {R:Nat} (M:Nat) (hR:1 < R) (hs:s.size≤100000) (HE:ElemC s R M):KidsC s R M:=by
 intro deep k w hM hk hd1 hd8 hg h;have HG:=Ld hg;have HEI:=Ld HE;have hRl:R < w.heap.size:=Blk.lt h;have HX:=Ld h;clear hg h HE;have hwd:IntKind.i64.wrap (deep + 1)=deep + 1:=by rw[IntKind.wrap_i64];omega
 go_enter func102,ntmps102;go_wp2_with fail
 go_loopg [5] s.size (fun g u wx=>∃ j f xs Kr,k≤j∧j≤s.size∧s.size≤j + g∧f.bulk≤5 * j∧Hid (Fd.z0g deep (s.data.toList.drop k) .nil=Fd.z0g deep (s.data.toList.drop j) f)∧Hid (KdI w wx R s j u f xs Kr))
 case atStart=>exact⟨k,.nil,[],(fun _=>False),Lr,hk,by omega,Nat.zero_le _,rfl,⟨hRl,HX.out,Ap.refl _ _,⟨World.ownsRow_nil _ _ _ _,rfl,fun _ _ h=>h,fun _ h=>h.elim⟩,fun _ h=>h.elim⟩⟩
 case round =>
  obtain⟨j,f,xs,Kr,hkj,hjs,hfu,hbk,HA,I⟩:=hrel;obtain⟨ao0,cap0,hu0⟩:=Y1 I.out.ow.own;subst hu0;have hdl:(s.data.toList.drop j).length=s.size - j:=by rw[List.length_drop,bs_len]
  have HDL:=Ld hdl;have HROOM:Hid (∀ p:List UInt8,Mg.pre p (s.data.toList.drop j)=true→p.length ≠ 0→j + p.length≤s.size):=by
   intro p hp h0;have h3:=Fd.z0t hp;rw[hdl] at h3;omega
  clear hdl HX;have HB1:=Ld (z95 [60,47] I.out hjs hs);obtain⟨b1,hb1⟩:∃ b,Mg.pre [60,47] (s.data.toList.drop j)=b:=⟨_,rfl⟩;rw[hb1] at HB1;have HP1:=Ld hb1;clear hb1;go_wp2_with fail;refine HB1.out.mono ?_;rintro e w1 ⟨rfl,hI⟩;have I1:=Ld hI;clear hI HB1 I
  cases b1 with
  | true =>
   have hj2:j + 2≤s.size:=HROOM.out _ HP1.out (by decide);have HE:Hid (Fd.z0g deep (s.data.toList.drop k) .nil=.ok f (s.data.toList.drop (j + 2))):=by show _=_;rw[HA.out,Fd.q7w HP1.out,List.drop_drop]
   have c1:=I1.out.x.c1;have f1:=I1.out.x.fz 1;have I2:Hid (KdI w (w1.setCell ⟨R,1,none⟩ (.int .i64 ((j:Int) + 2))) R s (j + 2) (.slice ao0 f.len cap0) f xs Kr):=I1.out.moved ((Moved.refl R w1).setCell 1 _) (by have:=I1.out.x.at_ (j + 2);simpa using this);clear HA HP1 I1;go_wp2_with fail;go_ret;refine .inr ⟨f,j + 2,_,HE.out,rfl,by omega,hj2,I2.out.x,I2.out.ap,I2.out.ow.foV (fun b hb=>⟨I2.out.kr b hb,I2.out.ow.le b hb⟩) (fun g hg=>I2.out.ow.own.lt g hg)⟩
  | false =>
  have HB2:=Ld (z95 Fd.z1o I1.out hjs hs);obtain⟨b2,hb2⟩:∃ b,Mg.pre Fd.z1o (s.data.toList.drop j)=b:=⟨_,rfl⟩;rw[hb2] at HB2;have HP2:=Ld hb2;clear hb2;go_wp2_with fail;refine HB2.out.mono ?_;rintro e w2 ⟨rfl,hI⟩;have I2:=Ld hI;clear hI HB2 I1
  cases b2 with
  | true =>
   as_aux_lemma =>
   have hj9:j + 9≤s.size:=HROOM.out _ HP2.out (by decide);have c1:=I2.out.x.c1;have f1:=I2.out.x.fz 1;have I3:Hid (KdI w (w2.setCell ⟨R,1,none⟩ (.int .i64 ((j:Int) + 9))) R s (j + 9) (.slice ao0 f.len cap0) f xs Kr):=I2.out.moved ((Moved.refl R w2).setCell 1 _) (by have:=I2.out.x.at_ (j + 9);simpa using this);clear I2;go_upto_region 8 with fail;generalize w2.setCell ⟨R,1,none⟩ (.int .i64 ((j:Int) + 9))=w3 at I3 ⊢;clear c1 f1;have HT:=Ld (xr_to [93,93,62] (I3.out.gl HG.out hR) I3.out.x hj9 (by omega) (by decide) (by decide));go_wp2_with fail;refine HT.out.mono ?_;rintro e w4 (⟨ha,rfl,n4,hw4⟩ | ⟨a,j4,ha,rfl,hj4,hjs4,hx,hm⟩)
   ·subst hw4
    have HE:Hid (Fd.z0g deep (s.data.toList.drop k) .nil=.er 1):=by
     show _=_;rw[HA.out,Fd.q4c HP1.out HP2.out (e:=1)];rw[List.drop_drop,Fd.toX,ha]
    have AP:=Ld (I3.out.ap.drewN n4);clear ha HT;go_wp2_with fail;exact⟨rfl,.inl ⟨1,HE.out,rfl,AP.out⟩⟩
   ·have htx:Fd.toX [93,93,62] ((s.data.toList.drop j).drop 9)=.ok a (s.data.toList.drop j4):=by rw[List.drop_drop,Fd.toX,ha]
    have htl:=Fd.z9l (by simp) htx;rw[List.drop_drop,List.length_drop,List.length_drop,bs_len] at htl;have HN:Hid (Fd.z0g deep (s.data.toList.drop k) .nil=Fd.z0g deep (s.data.toList.drop j4) (Fd.z90 f a)):=by
     show _=_;rw[HA.out,Fd.j1p HP1.out HP2.out htx]
    have hbk2:(Fd.z90 f a).bulk≤5 * j4:=by
     have:=Fd.z6m f a;simp only [List.length_cons,List.length_nil] at htl;omega
    have I4:=Ld (I3.out.moved hm hx);have HTX:=Ld (j7a f a _ w.heap.size Kr xs w4 I4.out.ow I4.out.ap.size (by simp only [List.length_cons,List.length_nil] at htl;omega));clear ha htx htl hx hm HT HA I3;go_wp2_with fail;refine HTX.out.mono ?_;rintro e w5 ⟨v',xs',rfl,hof,hap,_⟩;have I5:=Ld (I4.out.text hof hap);clear hof hap HTX I4;obtain⟨g',rfl⟩:∃ g',gk=g' + 1:=⟨gk - 1,by omega⟩;go_wp2_with fail
    go_roundg g'
    case measure=>omega
    case rel=>exact⟨j4,_,xs',Kr,by omega,hjs4,by omega,hbk2,HN,I5⟩
  | false =>
  have HAS:=Ld (j07 (I2.out.gl HG.out hR) hR I2.out.x hjs (by omega));go_wp2_with fail;refine HAS.out.mono ?_;rintro e w3 (⟨ha,rfl,hx,hm⟩ | ⟨ha,rfl,hm⟩ | ⟨j3,ha,rfl,hj3,hjs3,hx,hm⟩)
  case inr.inl =>
   have HE:Hid (Fd.z0g deep (s.data.toList.drop k) .nil=.er 1):=by show _=_;rw[HA.out,Fd.q2b HP1.out HP2.out ha]
   have AP:=Ld (I2.out.ap.trans hm.ap);clear ha hm HAS;go_wp2_with fail;exact⟨rfl,.inl ⟨1,HE.out,rfl,AP.out⟩⟩
  case inr.inr =>
   have HN:Hid (Fd.z0g deep (s.data.toList.drop k) .nil=Fd.z0g deep (s.data.toList.drop j3) f):=by show _=_;rw[HA.out,Fd.q7v HP1.out HP2.out ha]
   have I3:=Ld (I2.out.moved hm hx);clear ha hm hx HAS;obtain⟨g',rfl⟩:∃ g',gk=g' + 1:=⟨gk - 1,by omega⟩;go_wp2_with fail
   go_roundg g'
   case measure=>omega
   case rel=>exact⟨j3,f,xs,Kr,by omega,hjs3,by omega,by omega,HN,I3⟩
  have HAN:=Ld ha;have I3:=Ld (I2.out.moved hm hx);clear ha hm hx HAS I2;have HB3:=Ld (z95 [60] I3.out hjs hs);obtain⟨b3,hb3⟩:∃ b,Mg.pre [60] (s.data.toList.drop j)=b:=⟨_,rfl⟩;rw[hb3] at HB3;have HP3:=Ld hb3;clear hb3;go_wp2_with fail;refine HB3.out.mono ?_;rintro e w4 ⟨rfl,hI⟩;have I4:=Ld hI;clear hI HB3 I3
  cases b3 with
  | true =>
   as_aux_lemma =>
   have HEL:=Ld (HEI.out (deep + 1) j w4 (by omega) hjs (by omega) (by omega) (I4.out.gl HG.out hR) I4.out.x);go_wp2_with fail;refine HEL.out.mono ?_;rintro e w5 (⟨er,he,rfl,hap⟩ | ⟨x,j5,va,vk,he,rfl,hj5,hjs5,hx,hap,hva,hvk,hxn⟩)
   ·have HE:Hid (Fd.z0g deep (s.data.toList.drop k) .nil=.er er):=by show _=_;rw[HA.out,Fd.q4d HP1.out HP2.out HAN.out HP3.out he]
    have AP:=Ld (I4.out.ap.trans hap);clear he hap HEL;go_wp2_with fail;exact⟨rfl,.inl ⟨er,HE.out,rfl,AP.out⟩⟩
   ·have HN:Hid (Fd.z0g deep (s.data.toList.drop k) .nil=Fd.z0g deep (s.data.toList.drop j5) (f.app (.node x.name x.ats [] x.kids .nil))):=by show _=_;rw[HA.out,Fd.j1q HP1.out HP2.out HAN.out HP3.out he]
    have hxb:=Fd.j1c he;rw[List.length_drop,List.length_drop,bs_len] at hxb;have hbk2:(f.app (.node x.name x.ats [] x.kids .nil)).bulk≤5 * j5:=by
     rw[Fd.q0h];have h0:Mk.Fo.bulk (.node x.name x.ats [] x.kids .nil)=1 + x.name.length + 0 + Mk.Fo.atB x.ats + Mk.Fo.bulk x.kids + 0:=rfl;rw[h0];omega
    have hfl:=Mk.Fo.z0m f;obtain⟨aoa,capa,hva1,_⟩:=id hva;subst hva1;obtain⟨aok,capk,xsk,hvk1,_⟩:=id hvk;subst hvk1;have I4b:=I4.out.ap2 hap hx;have ow10:=X8 I4b.ow.own ((Ap.refl (fun _=>False) w5).alloc (.cells #[.string (st x.name),.slice aoa x.ats.length capa,.string (st []),.slice aok x.kids.len capk] 38)) (fun _ _ q=>q);have hal2:=(Below.refl w5.heap.size w5).alloc (Lr) (.cells #[.string (st x.name),.slice aoa x.ats.length capa,.string (st []),.slice aok x.kids.len capk] 38);have hBs:w.heap.size≤(w5.alloc (.cells #[.string (st x.name),.slice aoa x.ats.length capa,.string (st []),.slice aok x.kids.len capk] 38)).heap.size:=Nat.le_trans I4b.ap.size (by simp);have HPU:=Ld (And.intro hap (And.intro hx (And.intro hva (And.intro hvk (And.intro hxn hal2)))));obtain⟨i0,hi,hz0,hz1,hz2⟩:=info_parts Tryz.infoNode;unfold z0d;clear he hxb HEL HA hap hx hva hvk hxn hal2 I4b;go_wp2_with (at_builtin;refine Q9 rfl _ _ 22 rfl w.heap.size 38 i0 (.agg #[.string ⟨#[]⟩,.slice none 0 0,.string ⟨#[]⟩,.slice none 0 0]) 4 80 underlying22 hi hz0 hz1 hz2 rfl (by decide) _ _ _ rfl ow10 ⟨w5.heap.size,0,none⟩ 1 1 [.string (st x.name),.slice aoa x.ats.length capa,.string (st []),.slice aok x.kids.len capk] rfl rfl (Y9 _ _ _) (by intro u hu;simp at hu;rcases hu with rfl | rfl | rfl | rfl <;> rfl) (by decide) (by unfold maxLen;omega) (by omega) hBs ?_);intro v' w6 hown' hgrow hfresh;have I6:=Ld (I4.out.push HPU.out.1 HPU.out.2.1 HPU.out.2.2.1 HPU.out.2.2.2.1 HPU.out.2.2.2.2.1 HPU.out.2.2.2.2.2 hown' hgrow (hfresh.imp id (fun e=>by rw[e];simp)));clear hown' hgrow hfresh HPU ow10 hBs I4;obtain⟨g',rfl⟩:∃ g',gk=g' + 1:=⟨gk - 1,by omega⟩;go_wp2_with fail
    go_roundg g'
    case measure=>omega
    case rel=>exact⟨j5,_,_,_,by omega,hjs5,by omega,hbk2,HN,I6⟩
  | false =>
   as_aux_lemma =>
   have HPL:=Ld (xr_plain (I4.out.gl HG.out hR) hR I4.out.x hjs hs);go_wp2_with fail;refine HPL.out.mono ?_;rintro e w5 (⟨ha,rfl,hap⟩ | ⟨a,y,ha,rfl,hal,hx,hm⟩)
   ·have HE:Hid (Fd.z0g deep (s.data.toList.drop k) .nil=.er 1):=by show _=_;rw[HA.out,Fd.q4f HP1.out HP2.out HAN.out HP3.out ha]
    have AP:=Ld (I4.out.ap.trans hap);clear ha hap HPL;go_wp2_with fail;exact⟨rfl,.inl ⟨1,HE.out,rfl,AP.out⟩⟩
   have I5:=Ld (I4.out.moved hm hx);have hne:=Fd.q3u HP3.out ha;have hne1:1≤a.length:=List.length_pos_iff.2 hne;have HAH:=Ld ha;clear hm hx HPL I4 ha hne;have HTO:=Ld (q8x a w5 (by omega) (I5.out.gl HG.out hR));go_wp2_with fail;refine HTO.out.mono ?_;rintro e w6 ⟨hb6,⟨hk2,rfl⟩ | ⟨hk2,rfl⟩⟩
   case inr =>
    have HE:Hid (Fd.z0g deep (s.data.toList.drop k) .nil=.er 1):=by show _=_;rw[HA.out,Fd.q4e HP1.out HP2.out HAN.out HP3.out HAH.out hk2]
    have AP:=Ld (I5.out.below hb6).ap;clear hk2 hb6 HTO;go_wp2_with fail;exact⟨rfl,.inl ⟨1,HE.out,rfl,AP.out⟩⟩
   have HN:Hid (Fd.z0g deep (s.data.toList.drop k) .nil=Fd.z0g deep (s.data.toList.drop (j + a.length)) (Fd.z90 f (Mk.take a).1)):=by show _=_;rw[HA.out,Fd.j1r HP1.out HP2.out HAN.out HP3.out HAH.out hk2,List.drop_drop]
   have htl:=Mk.take_len a;have I6:=Ld (I5.out.below hb6);generalize (Mk.take a).1=t at HN htl ⊢;have hbk2:(Fd.z90 f t).bulk≤5 * (j + a.length):=by
    have:=Fd.z6m f t;omega
   have HTX:=Ld (j7a f t _ w.heap.size Kr xs w6 I6.out.ow I6.out.ap.size (by omega));clear hk2 hb6 HTO HAH HA I5;go_wp2_with fail;refine HTX.out.mono ?_;rintro e w7 ⟨v',xs',rfl,hof,hap,_⟩;have I7:=Ld (I6.out.text hof hap);clear hof hap HTX I6;obtain⟨g',rfl⟩:∃ g',gk=g' + 1:=⟨gk - 1,by omega⟩;go_wp2_with fail
   go_roundg g'
   case measure=>omega
   case rel=>exact⟨j + a.length,_,xs',Kr,by omega,hal,by omega,hbk2,HN,I7⟩
theorem xr_both {s:ByteArray} {R:Nat} (hR:1 < R) (hs:s.size≤100000) (M:Nat):ElemC s R M∧KidsC s R M:=by
 induction M with
 | zero =>
  have h0:ElemC s R 0:=fun deep k w h=>absurd h (Nat.not_lt_zero _)
  exact⟨h0,j7b 0 hR hs h0⟩
 | succ M ih =>
  have h1:=j3i M hR hs ih.2;exact⟨h1,j7b (M + 1) hR hs h1⟩
theorem j05 (C E:Nat) (w:World) (a b c d f:Value) (hC:Blk w C 38 #[a,b,c,d]) (hE:Blk w E 25 #[f]) (hCE:C ≠ E) (er:Int) (older:List PanicEntry) :
  CallsD prog 62 #[.pointer (some ⟨C,0,none⟩),.pointer (some ⟨E,0,none⟩)] (.panicking ({ v:=.iface 25 (.int .i64 er),recovered:=false } :: older)) w fun e u' w' =>
   e=.returned (.tuple #[])∧u'=.panicking ({ v:=.iface 25 (.int .i64 er),recovered:=true } :: older)∧Blk w' C 38 j3k∧Blk w' E 25 #[.int .i64 er]∧Ap (fun b=>b=C∨b=E) w w':=by
 have c0:w.cell? ⟨C,0,none⟩=some a:=Blk.cell hC 0;have c1:w.cell? ⟨C,1,none⟩=some b:=Blk.cell hC 1;have c2:w.cell? ⟨C,2,none⟩=some c:=Blk.cell hC 2;have c3:w.cell? ⟨C,3,none⟩=some d:=Blk.cell hC 3;have y:∀ i,w.frozen? ⟨C,i,none⟩=false:=Blk.frozen hC;have hEn:Blk (ansW w C (.string ⟨#[]⟩) (.slice none 0 0) (.string ⟨#[]⟩) (.slice none 0 0)) E 25 #[f] :=
  Blk.far (Blk.far (Blk.far (Blk.far hE (p:=⟨C,0,none⟩) (fun e=>hCE e.symm) _) (p:=⟨C,1,none⟩) (fun e=>hCE e.symm) _) (p:=⟨C,2,none⟩) (fun e=>hCE e.symm) _) (p:=⟨C,3,none⟩) (fun e=>hCE e.symm) _
 have hCn:Blk (ansW w C (.string ⟨#[]⟩) (.slice none 0 0) (.string ⟨#[]⟩) (.slice none 0 0)) C 38 j3k:=Blk.set_ (Blk.set_ (Blk.set_ (Blk.set_ hC 0 _) 1 _) 2 _) 3 _;have hAn:Ap (fun b=>b=C∨b=E) w (ansW w C (.string ⟨#[]⟩) (.slice none 0 0) (.string ⟨#[]⟩) (.slice none 0 0)):=((((Ap.refl (fun b=>b=C∨b=E) w).setCell (p:=⟨C,0,none⟩) (.inl rfl) _).setCell (p:=⟨C,1,none⟩) (.inl rfl) _).setCell (p:=⟨C,2,none⟩) (.inl rfl) _).setCell (p:=⟨C,3,none⟩) (.inl rfl) _;have e0:(ansW w C (.string ⟨#[]⟩) (.slice none 0 0) (.string ⟨#[]⟩) (.slice none 0 0)).cell? ⟨E,0,none⟩=some f:=Blk.cell hEn 0;have e1:=Blk.frozen hEn 0;have FIN:=Ld (And.intro (Blk.far hCn (p:=⟨E,0,none⟩) hCE (.int .i64 er)) (And.intro (Blk.set_ hEn 0 (.int .i64 er)) (hAn.setCell (p:=⟨E,0,none⟩) (.inr rfl) (.int .i64 er))));unfold ansW at e0 e1;clear hC hE hEn hCn hAn;have hta:∀ W:World,(Instr.typeAssert (.iface 25 (.int .i64 er)) 20 25 true).run prog W=.ok (.tuple #[.int .i64 er,.bool true]) W:=fun _=>by kernel_rfl
 refine callsD_of_wpS func62 rfl fun c₀ cs hu=>?_
 apply wpS_seq
 apply wpS_region
 simp[wpOpsS,go_sem,recoverD,hu,ntmps62,Exit.thenS];refine wpS_of_wp ?_;change Code.wp _ _ _ { tmps:=#[.pointer (some ⟨C,0,none⟩),.pointer (some ⟨E,0,none⟩),.iface 25 (.int .i64 er),undef,undef,.iface 25 (.int .i64 er),undef,undef,undef,undef,undef,undef,undef,undef,undef,undef,undef,undef],defers:=[] } w;go_wp2_with fail
 cases c₀
 simp only [bodyPostS];refine⟨trivial,_,rfl,_,by simp[results,results62],rfl,rfl,FIN.out.1,FIN.out.2.1,FIN.out.2.2⟩
theorem q8v (C E:Nat) (w:World) :
  CallsD prog 62 #[.pointer (some ⟨C,0,none⟩),.pointer (some ⟨E,0,none⟩)] .returning w fun e u' w'=>e=.returned (.tuple #[])∧u'=.returning∧w'=w:=by
 refine callsD_of_wpS func62 rfl fun c₀ cs hu=>?_
 apply wpS_seq
 apply wpS_region
 simp[wpOpsS,go_sem,recoverD,hu,ntmps62,Exit.thenS];refine wpS_of_wp ?_;change Code.wp _ _ _ { tmps:=#[.pointer (some ⟨C,0,none⟩),.pointer (some ⟨E,0,none⟩),.nilIface,undef,undef,.nilIface,undef,undef,undef,undef,undef,undef,undef,undef,undef,undef,undef,undef],defers:=[] } w;go_wp2_with fail
 cases c₀
 simp_all [bodyPostS,results,results62]
structure AlI (w wx:World) (C E R:Nat) (s:ByteArray) (j:Nat) (a b c d:Value):Prop where
 x:Xr wx R s j
 bl:Below w.heap.size w wx
 wc:w.heap.size≤C
 ce:C < E
 er:E < R
 cb:Blk wx C 38 #[a,b,c,d]
 eb:Blk wx E 25 #[.int .i64 0]
section
variable {w wx wy : World} {C E R : Nat} {s : ByteArray} {j j' : Nat} {a b c d : Value}
theorem AlI.ap2 (h:AlI w wx C E R s j a b c d) (ha:Ap (fun b=>b=R) wx wy) (hx:Xr wy R s j'):AlI w wy C E R s j' a b c d:=by
 have h1:=h.wc;have h2:=h.ce;have h3:=h.er;exact⟨hx,h.bl.trans (ha.below h.bl.size (fun k hk e=>by have e:k=R:=e;omega)),h.wc,h.ce,h.er,h.cb.ap ha (fun e=>by have e:C=R:=e;omega),h.eb.ap ha (fun e=>by have e:E=R:=e;omega)⟩
theorem AlI.gave (h:AlI w wx C E R s j a b c d) (ha:Ap (fun b=>b=R) wx wy):Below w.heap.size w wy∧Blk wy C 38 #[a,b,c,d]∧Blk wy E 25 #[.int .i64 0]:=by
 have h1:=h.wc;have h2:=h.ce;have h3:=h.er;exact⟨h.bl.trans (ha.below h.bl.size (fun k hk e=>by have e:k=R:=e;omega)),h.cb.ap ha (fun e=>by have e:C=R:=e;omega),h.eb.ap ha (fun e=>by have e:E=R:=e;omega)⟩
theorem AlI.put (h:AlI w wx C E R s j a b c d) (a' b' c' d':Value):AlI w (ansW wx C a' b' c' d') C E R s j a' b' c' d':=by
 have h1:=h.wc;have h2:=h.ce;have h3:=h.er;have n1:R ≠ C:=by omega
 have n2:E ≠ C:=by omega
 refine⟨?_,?_,h.wc,h.ce,h.er,Blk.set_ (Blk.set_ (Blk.set_ (Blk.set_ h.cb 0 _) 1 _) 2 _) 3 _,?_⟩
 ·exact Blk.far (Blk.far (Blk.far (Blk.far h.x (p:=⟨C,0,none⟩) n1 _) (p:=⟨C,1,none⟩) n1 _) (p:=⟨C,2,none⟩) n1 _) (p:=⟨C,3,none⟩) n1 _
 ·exact(((h.bl.setCell (p:=⟨C,0,none⟩) h1 _).setCell (p:=⟨C,1,none⟩) h1 _).setCell (p:=⟨C,2,none⟩) h1 _).setCell (p:=⟨C,3,none⟩) h1 _
 ·exact Blk.far (Blk.far (Blk.far (Blk.far h.eb (p:=⟨C,0,none⟩) n2 _) (p:=⟨C,1,none⟩) n2 _) (p:=⟨C,2,none⟩) n2 _) (p:=⟨C,3,none⟩) n2 _
end
def z2l (s:List UInt8) (w:World) (e:Ending) (w':World):Prop:=Below w.heap.size w w'∧∃ va vk,e=.returned (.tuple #[z0d (Fd.xmlR s).1.name va [] vk,.int .i64 (Fd.xmlR s).2])∧AtsV w' (Nw w w') va (Fd.xmlR s).1.ats∧FoV w' (Nw w w') vk (Fd.xmlR s).1.kids
theorem z2l.gave {s:List UInt8} {w wx w':World} {C E:Nat} {er:Int} (hb:Below w.heap.size w wx) (hC:w.heap.size≤C) (hE:w.heap.size≤E) (ha:Ap (fun b=>b=C∨b=E) wx w') (hx:Fd.xmlR s=(⟨[],[],.nil⟩,er)) :
  z2l s w (.returned (.tuple #[.agg #[.string ⟨#[]⟩,.slice none 0 0,.string ⟨#[]⟩,.slice none 0 0],.int .i64 er])) w':=by
 unfold z2l;rw[hx];exact⟨hb.trans (ha.below hb.size (by rintro k hk (e | e) <;> omega)),.slice none 0 0,.slice none 0 0,rfl,AtsV.nil _ _,⟨none,0,[],rfl,.inl rfl,rfl,Nat.zero_le _⟩⟩
theorem xm_All (s:List UInt8) (w:World) (hg:Gl w) (hs:s.length≤100000) :
  Calls prog 44 #[.string (st s)] w fun e w'=>z2l s w e w':=by
 have hmf:∀ (fn:Fn) (first cap:Array Value) (w:World),(Instr.makeFunc fn first cap).run prog w=.ok (.func fn first cap) w:=fun _ _ _ _=>rfl
 have hlt:=hg.lt;have hz:(st s).size=s.length:=y9 s;have I0:Hid (AlI w (((w.alloc (.cells #[.string ⟨#[]⟩,.slice none 0 0,.string ⟨#[]⟩,.slice none 0 0] 38)).alloc (.cells #[.int .i64 0] 25)).alloc (.cells #[.string (st s),.int .i64 0] 102)) w.heap.size (w.heap.size + 1) (w.heap.size + 1 + 1) (st s) 0 (.string ⟨#[]⟩) (.slice none 0 0) (.string ⟨#[]⟩) (.slice none 0 0)):=by
  have b0:=Blk.new w 38 #[.string ⟨#[]⟩,.slice none 0 0,.string ⟨#[]⟩,.slice none 0 0];have b1:=Blk.new (w.alloc (.cells #[.string ⟨#[]⟩,.slice none 0 0,.string ⟨#[]⟩,.slice none 0 0] 38)) 25 #[.int .i64 0];have b2:=Blk.new ((w.alloc (.cells #[.string ⟨#[]⟩,.slice none 0 0,.string ⟨#[]⟩,.slice none 0 0] 38)).alloc (.cells #[.int .i64 0] 25)) 102 #[.string (st s),.int .i64 0];simp only [World.size_alloc] at b1 b2;exact⟨b2,(((Below.refl _ w).alloc (Lr) _).alloc (by simp) _).alloc (by simp;omega) _,Lr,by omega,by omega,Blk.alloc (Blk.alloc b0 _) _,Blk.alloc b1 _⟩
 have HG:=Ld hg;have HQ:=Ld (Fd.xmlR_eq s);have h0:(st s).data.toList.drop 0=s:=rfl;clear hg;have HM:=Ld (j7c (HG.out.below I0.out.bl hlt) (by omega:1 < w.heap.size + 1 + 1) I0.out.x (Nat.zero_le _) (by rw[hz];omega));rw[h0] at HM
 go_enter_defers func44,ntmps44
 go_wp2_with fail;generalize (((w.alloc (.cells #[.string ⟨#[]⟩,.slice none 0 0,.string ⟨#[]⟩,.slice none 0 0] 38)).alloc (.cells #[.int .i64 0] 25)).alloc (.cells #[.string (st s),.int .i64 0] 102))=w3 at I0 HM ⊢;have hCE:w.heap.size ≠ w.heap.size + 1:=by omega
 have hR:1 < w.heap.size + 1 + 1:=by omega
 generalize w.heap.size + 1 + 1=R at I0 HM hR ⊢;generalize hE1:w.heap.size + 1=E at I0 hCE ⊢;generalize hC1:w.heap.size=C at I0 hCE ⊢;have hCC:w.heap.size≤C:=by omega
 have hEE:w.heap.size≤E:=by omega
 clear hE1 hC1;refine HM.out.mono ?_;rintro e w4 (⟨hm,rfl,hmv⟩ | ⟨j1,hm,rfl,hj0,hj1,hx,hmv⟩)
 ·as_aux_lemma =>
  have GV:=Ld (I0.out.gave hmv.ap);have HXQ:Hid (Fd.xmlR s=(⟨[],[],.nil⟩,1)):=by show _=_;rw[HQ.out,hm]
  clear hm hmv HM I0;go_wp2_with fail;refine leaves_cons (f:=62) (args:=#[.pointer (some ⟨C,0,none⟩),.pointer (some ⟨E,0,none⟩)]) (by simp) (by simp[go_sem]) ?_;refine(j05 C E w4 _ _ _ _ _ GV.out.2.1 GV.out.2.2 hCE _ []).mono ?_;rintro e u' wz ⟨rfl,rfl,hcz,hez,haz⟩;have z0:wz.cell? ⟨C,0,none⟩=some (.string ⟨#[]⟩):=Blk.cell hcz 0;have z1:wz.cell? ⟨C,1,none⟩=some (.slice none 0 0):=Blk.cell hcz 1;have z2:wz.cell? ⟨C,2,none⟩=some (.string ⟨#[]⟩):=Blk.cell hcz 2;have z3:wz.cell? ⟨C,3,none⟩=some (.slice none 0 0):=Blk.cell hcz 3;have z4:wz.cell? ⟨E,0,none⟩=some (.int .i64 1):=Blk.cell hez 0;have FIN:=Ld (z2l.gave GV.out.1 hCC hEE haz HXQ.out);clear hcz hez haz HQ;simp[Leaves,settle,results,results44,go_sem,z0,z1,z2,z3,z4];exact FIN.out
 have HMI:=Ld hm;have I1:=Ld (I0.out.ap2 hmv.ap hx);clear hm hmv hx HM I0;have HEL:=Ld ((xr_both hR (by omega:(st s).size≤100000) ((st s).size - j1 + 1)).1 1 j1 w4 (Nat.lt_succ_self _) hj1 (by decide) (by decide) (HG.out.below I1.out.bl hlt) I1.out.x);go_wp2_with fail;refine HEL.out.mono ?_;rintro e w5 (⟨er,he,rfl,hap⟩ | ⟨x,j2,va,vk,he,rfl,hj2,hjs2,hx,hap,hva,hvk,hxn⟩)
 ·as_aux_lemma =>
  have GV:=Ld (I1.out.gave hap);have HXQ:Hid (Fd.xmlR s=(⟨[],[],.nil⟩,er)):=by show _=_;rw[HQ.out,HMI.out];simp only;rw[he]
  clear he hap HEL I1 HMI;go_wp2_with fail;refine leaves_cons (f:=62) (args:=#[.pointer (some ⟨C,0,none⟩),.pointer (some ⟨E,0,none⟩)]) (by simp) (by simp[go_sem]) ?_;refine(j05 C E w5 _ _ _ _ _ GV.out.2.1 GV.out.2.2 hCE _ []).mono ?_;rintro e u' wz ⟨rfl,rfl,hcz,hez,haz⟩;have z0:wz.cell? ⟨C,0,none⟩=some (.string ⟨#[]⟩):=Blk.cell hcz 0;have z1:wz.cell? ⟨C,1,none⟩=some (.slice none 0 0):=Blk.cell hcz 1;have z2:wz.cell? ⟨C,2,none⟩=some (.string ⟨#[]⟩):=Blk.cell hcz 2;have z3:wz.cell? ⟨C,3,none⟩=some (.slice none 0 0):=Blk.cell hcz 3;have z4:wz.cell? ⟨E,0,none⟩=some (.int .i64 er):=Blk.cell hez 0;have FIN:=Ld (z2l.gave GV.out.1 hCC hEE haz HXQ.out);clear hcz hez haz HQ;simp[Leaves,settle,results,results44,go_sem,z0,z1,z2,z3,z4];exact FIN.out
 have HEI:=Ld he;have I2:=Ld (I1.out.ap2 hap hx);have h45:=hap.size;have h34:=I1.out.bl.size;obtain⟨aoa,capa,hva1,_⟩:=id hva;subst hva1;obtain⟨aok,capk,xsk,hvk1,_⟩:=id hvk;subst hvk1;have hCl:C < w4.heap.size:=Blk.lt I1.out.cb;have hRl:R < w4.heap.size:=Blk.lt I1.out.x;have HVA:=Ld (And.intro hva hvk);clear he hap hx HEL hva hvk hxn I1;have c0:w5.cell? ⟨C,0,none⟩=some (.string ⟨#[]⟩):=Blk.cell I2.out.cb 0;have c1:w5.cell? ⟨C,1,none⟩=some (.slice none 0 0):=Blk.cell I2.out.cb 1;have c2:w5.cell? ⟨C,2,none⟩=some (.string ⟨#[]⟩):=Blk.cell I2.out.cb 2;have c3:w5.cell? ⟨C,3,none⟩=some (.slice none 0 0):=Blk.cell I2.out.cb 3;have y:∀ i,w5.frozen? ⟨C,i,none⟩=false:=Blk.frozen I2.out.cb;have I3:=Ld (I2.out.put (.string (st x.name)) (.slice aoa x.ats.length capa) (.string (st [])) (.slice aok x.kids.len capk));have keep:∀ b,Nw w4 w5 b→Nw w5 (ansW w5 C (.string (st x.name)) (.slice aoa x.ats.length capa) (.string (st [])) (.slice aok x.kids.len capk)) b∨True:=fun _ _=>.inr trivial
 clear keep;have HV3:Hid (AtsV (ansW w5 C (.string (st x.name)) (.slice aoa x.ats.length capa) (.string (st [])) (.slice aok x.kids.len capk)) (Nw w4 w5) (.slice aoa x.ats.length capa) x.ats∧FoV (ansW w5 C (.string (st x.name)) (.slice aoa x.ats.length capa) (.string (st [])) (.slice aok x.kids.len capk)) (Nw w4 w5) (.slice aok x.kids.len capk) x.kids∧(ansW w5 C (.string (st x.name)) (.slice aoa x.ats.length capa) (.string (st [])) (.slice aok x.kids.len capk)).heap.size=w5.heap.size):=by
  have kp:∀ b,Nw w4 w5 b→Nw w4 w5 b∧(ansW w5 C (.string (st x.name)) (.slice aoa x.ats.length capa) (.string (st [])) (.slice aok x.kids.len capk)).heap[b]? = w5.heap[b]?:=by
   intro b hb;have hne:b ≠ C:=by have:=hb.1;omega
   refine⟨hb,?_⟩;unfold ansW;rw[Below.heap_setCell _ ⟨C,3,none⟩ _ b hne,Below.heap_setCell _ ⟨C,2,none⟩ _ b hne,Below.heap_setCell _ ⟨C,1,none⟩ _ b hne,Below.heap_setCell _ ⟨C,0,none⟩ _ b hne]
  exact⟨HVA.out.1.frame kp,HVA.out.2.frame kp,by simp[ansW,World.setCell]⟩
 clear HVA I2;unfold z0d;go_upto_region 5 with fail;change Code.wp _ _ _ _ (ansW w5 C (.string (st x.name)) (.slice aoa x.ats.length capa) (.string (st [])) (.slice aok x.kids.len capk));clear c0 c1 c2 c3 y;generalize ansW w5 C (.string (st x.name)) (.slice aoa x.ats.length capa) (.string (st [])) (.slice aok x.kids.len capk)=w6 at I3 HV3 ⊢;have HM2:=Ld (j7c (HG.out.below I3.out.bl hlt) hR I3.out.x hjs2 (by omega));go_wp2_with fail;refine HM2.out.mono ?_;rintro e w7 (⟨hm,rfl,hmv⟩ | ⟨j3,hm,rfl,hj3,hjs3,hx,hmv⟩)
 ·as_aux_lemma =>
  have GV:=Ld (I3.out.gave hmv.ap);have HXQ:Hid (Fd.xmlR s=(⟨[],[],.nil⟩,1)):=by show _=_;rw[HQ.out,HMI.out];simp only;rw[HEI.out];simp only;rw[hm]
  clear hm hmv HM2 I3 HV3;go_wp2_with fail;refine leaves_cons (f:=62) (args:=#[.pointer (some ⟨C,0,none⟩),.pointer (some ⟨E,0,none⟩)]) (by simp) (by simp[go_sem]) ?_;refine(j05 C E w7 _ _ _ _ _ GV.out.2.1 GV.out.2.2 hCE _ []).mono ?_;rintro e u' wz ⟨rfl,rfl,hcz,hez,haz⟩;have z0:wz.cell? ⟨C,0,none⟩=some (.string ⟨#[]⟩):=Blk.cell hcz 0;have z1:wz.cell? ⟨C,1,none⟩=some (.slice none 0 0):=Blk.cell hcz 1;have z2:wz.cell? ⟨C,2,none⟩=some (.string ⟨#[]⟩):=Blk.cell hcz 2;have z3:wz.cell? ⟨C,3,none⟩=some (.slice none 0 0):=Blk.cell hcz 3;have z4:wz.cell? ⟨E,0,none⟩=some (.int .i64 1):=Blk.cell hez 0;have FIN:=Ld (z2l.gave GV.out.1 hCC hEE haz HXQ.out);clear hcz hez haz HQ;simp[Leaves,settle,results,results44,go_sem,z0,z1,z2,z3,z4];exact FIN.out
 have I4:=Ld (I3.out.ap2 hmv.ap hx);have HXE:Hid (Fd.xmlR s=if s.drop j3=[] then (x,0) else (⟨[],[],.nil⟩,1)):=by show _=_;rw[HQ.out,HMI.out];simp only;rw[HEI.out];simp only;rw[hm];rfl
 have h76:=hmv.size;have HV4:Hid (AtsV w7 (Nw w4 w5) (.slice aoa x.ats.length capa) x.ats∧FoV w7 (Nw w4 w5) (.slice aok x.kids.len capk) x.kids):=by
  have kp:∀ b,Nw w4 w5 b→Nw w4 w5 b∧w7.heap[b]? = w6.heap[b]?:=fun b hb=>⟨hb,hmv.block b (by have:=hb.1;omega)⟩
  exact⟨HV3.out.1.frame kp,HV3.out.2.1.frame kp⟩
 have h65:=HV3.out.2.2;clear hm hmv hx HM2 I3 HMI HEI HV3;have r0:=I4.out.x.c0;have r1:=I4.out.x.c1
 by_cases hend:j3 < (st s).size
 ·as_aux_lemma =>
  have GV:=Ld (I4.out.gave (Ap.refl _ _));have HXQ:Hid (Fd.xmlR s=(⟨[],[],.nil⟩,1)):=by
   show _=_;rw[HXE.out,if_neg];intro q;have:=congrArg List.length q;rw[List.length_drop] at this;simp at this;omega
  have hji:(j3:Int) < (st s).size:=by omega
  clear HV4 I4;go_wp2_with fail;refine(z3g 1 _).mono ?_;rintro e w8 ⟨rfl,hw8⟩;subst w8;go_wp2_with fail;refine leaves_cons (f:=62) (args:=#[.pointer (some ⟨C,0,none⟩),.pointer (some ⟨E,0,none⟩)]) (by simp) (by simp[go_sem]) ?_;refine(j05 C E w7 _ _ _ _ _ GV.out.2.1 GV.out.2.2 hCE _ []).mono ?_;rintro e u' wz ⟨rfl,rfl,hcz,hez,haz⟩;have z0:wz.cell? ⟨C,0,none⟩=some (.string ⟨#[]⟩):=Blk.cell hcz 0;have z1:wz.cell? ⟨C,1,none⟩=some (.slice none 0 0):=Blk.cell hcz 1;have z2:wz.cell? ⟨C,2,none⟩=some (.string ⟨#[]⟩):=Blk.cell hcz 2;have z3:wz.cell? ⟨C,3,none⟩=some (.slice none 0 0):=Blk.cell hcz 3;have z4:wz.cell? ⟨E,0,none⟩=some (.int .i64 1):=Blk.cell hez 0;have FIN:=Ld (z2l.gave GV.out.1 hCC hEE haz HXQ.out);clear hcz hez haz HQ;simp[Leaves,settle,results,results44,go_sem,z0,z1,z2,z3,z4];exact FIN.out
 have HXQ:Hid (Fd.xmlR s=(x,0)):=by
  show _=_;rw[HXE.out,if_pos (List.drop_of_length_le (by omega))]
 have hji:¬ (j3:Int) < (st s).size:=by omega
 clear HXE HQ;have c0:w7.cell? ⟨C,0,none⟩=some (.string (st x.name)):=Blk.cell I4.out.cb 0;have c1:w7.cell? ⟨C,1,none⟩=some (.slice aoa x.ats.length capa):=Blk.cell I4.out.cb 1;have c2:w7.cell? ⟨C,2,none⟩=some (.string (st [])):=Blk.cell I4.out.cb 2;have c3:w7.cell? ⟨C,3,none⟩=some (.slice aok x.kids.len capk):=Blk.cell I4.out.cb 3;have y:∀ i,w7.frozen? ⟨C,i,none⟩=false:=Blk.frozen I4.out.cb;have I5:=I4.out.put (.string (st x.name)) (.slice aoa x.ats.length capa) (.string (st [])) (.slice aok x.kids.len capk);have e0:(ansW w7 C (.string (st x.name)) (.slice aoa x.ats.length capa) (.string (st [])) (.slice aok x.kids.len capk)).cell? ⟨E,0,none⟩=some (.int .i64 0):=Blk.cell I5.eb 0;have e1:=Blk.frozen I5.eb 0;have B5:=Ld ((I5.bl.setCell (p:=⟨E,0,none⟩) hEE (.int .i64 0)));have CB5:=Ld (Blk.far I5.cb (p:=⟨E,0,none⟩) hCE (.int .i64 0));have EB5:=Ld (Blk.set_ I5.eb 0 (.int .i64 0));have HV5:Hid (AtsV ((ansW w7 C (.string (st x.name)) (.slice aoa x.ats.length capa) (.string (st [])) (.slice aok x.kids.len capk)).setCell ⟨E,0,none⟩ (.int .i64 0)) (Nw w ((ansW w7 C (.string (st x.name)) (.slice aoa x.ats.length capa) (.string (st [])) (.slice aok x.kids.len capk)).setCell ⟨E,0,none⟩ (.int .i64 0))) (.slice aoa x.ats.length capa) x.ats∧FoV ((ansW w7 C (.string (st x.name)) (.slice aoa x.ats.length capa) (.string (st [])) (.slice aok x.kids.len capk)).setCell ⟨E,0,none⟩ (.int .i64 0)) (Nw w ((ansW w7 C (.string (st x.name)) (.slice aoa x.ats.length capa) (.string (st [])) (.slice aok x.kids.len capk)).setCell ⟨E,0,none⟩ (.int .i64 0))) (.slice aok x.kids.len capk) x.kids):=by
  have hsz:((ansW w7 C (.string (st x.name)) (.slice aoa x.ats.length capa) (.string (st [])) (.slice aok x.kids.len capk)).setCell ⟨E,0,none⟩ (.int .i64 0)).heap.size=w7.heap.size:=by simp[ansW,World.setCell]
  have hER:=I4.out.er;have kp:∀ b,Nw w4 w5 b→Nw w ((ansW w7 C (.string (st x.name)) (.slice aoa x.ats.length capa) (.string (st [])) (.slice aok x.kids.len capk)).setCell ⟨E,0,none⟩ (.int .i64 0)) b∧((ansW w7 C (.string (st x.name)) (.slice aoa x.ats.length capa) (.string (st [])) (.slice aok x.kids.len capk)).setCell ⟨E,0,none⟩ (.int .i64 0)).heap[b]? = w7.heap[b]?:=by
   intro b hb;have hb1:=hb.1;have hb2:=hb.2;have hne:b ≠ C:=by omega
   have hne2:b ≠ E:=by omega
   refine⟨⟨by omega,by rw[hsz];omega⟩,?_⟩;unfold ansW;rw[Below.heap_setCell _ ⟨E,0,none⟩ _ b hne2,Below.heap_setCell _ ⟨C,3,none⟩ _ b hne,Below.heap_setCell _ ⟨C,2,none⟩ _ b hne,Below.heap_setCell _ ⟨C,1,none⟩ _ b hne,Below.heap_setCell _ ⟨C,0,none⟩ _ b hne]
  exact⟨HV4.out.1.frame kp,HV4.out.2.frame kp⟩
 unfold ansW at e0 e1;clear I5 I4 HV4;go_wp2_with fail;change Leaves _ _ _ _ _ _ ((ansW w7 C (.string (st x.name)) (.slice aoa x.ats.length capa) (.string (st [])) (.slice aok x.kids.len capk)).setCell ⟨E,0,none⟩ (.int .i64 0));generalize (ansW w7 C (.string (st x.name)) (.slice aoa x.ats.length capa) (.string (st [])) (.slice aok x.kids.len capk)).setCell ⟨E,0,none⟩ (.int .i64 0)=w8 at B5 CB5 EB5 HV5 ⊢;clear e0 e1 c0 c1 c2 c3 y;refine leaves_cons (f:=62) (args:=#[.pointer (some ⟨C,0,none⟩),.pointer (some ⟨E,0,none⟩)]) (by simp) (by simp[go_sem]) ?_;refine(q8v C E w8).mono ?_;rintro e u' wz ⟨rfl,rfl,hwz⟩;subst wz;have z0:w8.cell? ⟨C,0,none⟩=some (.string (st x.name)):=Blk.cell CB5.out 0;have z1:w8.cell? ⟨C,1,none⟩=some (.slice aoa x.ats.length capa):=Blk.cell CB5.out 1;have z2:w8.cell? ⟨C,2,none⟩=some (.string (st [])):=Blk.cell CB5.out 2;have z3:w8.cell? ⟨C,3,none⟩=some (.slice aok x.kids.len capk):=Blk.cell CB5.out 3;have z4:w8.cell? ⟨E,0,none⟩=some (.int .i64 0):=Blk.cell EB5.out 0;have FIN:Hid (z2l s w (.returned (.tuple #[.agg #[.string (st x.name),.slice aoa x.ats.length capa,.string (st []),.slice aok x.kids.len capk],.int .i64 0])) w8):=by
  show z2l _ _ _ _;unfold z2l;rw[HXQ.out];exact⟨B5.out,_,_,rfl,HV5.out.1,HV5.out.2⟩
 clear HXQ;simp[Leaves,settle,results,results44,go_sem,z0,z1,z2,z3,z4];exact FIN.out
theorem q8w (s:List UInt8) (w:World) (hg:Gl w) :
  Calls prog 16 #[.string (st s)] w fun e w'=>Below w.heap.size w w'∧∃ va vk,e=.returned (.tuple #[z0d (Fd.xmlM s).1.name va [] vk,.int .i64 (Fd.xmlM s).2])∧AtsV w' (Nw w w') va (Fd.xmlM s).1.ats∧FoV w' (Nw w w') vk (Fd.xmlM s).1.kids:=by
 have hz:(st s).size=s.length:=y9 s;have hal:=(Below.refl w.heap.size w).alloc (Lr) (.cells #[.string ⟨#[]⟩,.slice none 0 0,.string ⟨#[]⟩,.slice none 0 0] 38);have hcb:=Blk.new w 38 #[.string ⟨#[]⟩,.slice none 0 0,.string ⟨#[]⟩,.slice none 0 0]
 by_cases h:3000 < s.length
 ·have HX:Hid (Fd.xmlM s=(⟨[],[],.nil⟩,2)):=by show _=_;rw[Fd.xmlM,if_pos h]
  have h2:3000 < (st s).size:=by omega
  have B3:=Ld hal;clear hz h hal hcb;go_enter func16,ntmps16;go_wp2_with fail;refine bodyPost_ret (v:=.tuple #[z0d [] (.slice none 0 0) [] (.slice none 0 0),.int .i64 2]) (by simp[results,results16,go_sem, *];rfl) rfl ?_;rw[HX.out];exact⟨B3.out,.slice none 0 0,.slice none 0 0,rfl,AtsV.nil _ _,⟨none,0,[],rfl,.inl rfl,rfl,Nat.zero_le _⟩⟩
 ·have HX:Hid (Fd.xmlM s=Fd.xmlR s):=by show _=_;rw[Fd.xmlM,if_neg h]
  have h2:¬ 3000 < (st s).size:=by omega
  have HA:=Ld (xm_All s (w.alloc (.cells #[.string ⟨#[]⟩,.slice none 0 0,.string ⟨#[]⟩,.slice none 0 0] 38)) (hg.alloc _) (by omega));have AL:=Ld hal;have CB:=Ld hcb;unfold z2l at HA;rw[← HX.out] at HA;generalize Fd.xmlM s=x at HA ⊢;clear hz h hal hcb hg HX;go_enter func16,ntmps16;go_wp2_with fail;refine HA.out.mono ?_;rintro e w2 ⟨hb,va,vk,rfl,hva,hvk⟩;clear HA;obtain⟨aoa,capa,hva1,_⟩:=id hva;subst hva1;obtain⟨aok,capk,xsk,hvk1,_⟩:=id hvk;subst hvk1;have hsz:=AL.out.size;have hNl:w.heap.size < (w.alloc (.cells #[.string ⟨#[]⟩,.slice none 0 0,.string ⟨#[]⟩,.slice none 0 0] 38)).heap.size:=by simp
  have NB:Blk w2 w.heap.size 38 #[.string ⟨#[]⟩,.slice none 0 0,.string ⟨#[]⟩,.slice none 0 0]:=(hb.block _ hNl).trans CB.out;have B2:=AL.out.trans (hb.mono hsz);have c0:w2.cell? ⟨w.heap.size,0,none⟩=some (.string ⟨#[]⟩):=Blk.cell NB 0;have c1:w2.cell? ⟨w.heap.size,1,none⟩=some (.slice none 0 0):=Blk.cell NB 1;have c2:w2.cell? ⟨w.heap.size,2,none⟩=some (.string ⟨#[]⟩):=Blk.cell NB 2;have c3:w2.cell? ⟨w.heap.size,3,none⟩=some (.slice none 0 0):=Blk.cell NB 3;have y:∀ i,w2.frozen? ⟨w.heap.size,i,none⟩=false:=Blk.frozen NB;have B3:Below w.heap.size w (ansW w2 w.heap.size (.string (st x.1.name)) (.slice aoa x.1.ats.length capa) (.string (st [])) (.slice aok x.1.kids.len capk)) :=
   (((B2.setCell (p:=⟨w.heap.size,0,none⟩) (Lr) _).setCell (p:=⟨w.heap.size,1,none⟩) (Lr) _).setCell (p:=⟨w.heap.size,2,none⟩) (Lr) _).setCell (p:=⟨w.heap.size,3,none⟩) (Lr) _
  have kp:∀ b,Nw (w.alloc (.cells #[.string ⟨#[]⟩,.slice none 0 0,.string ⟨#[]⟩,.slice none 0 0] 38)) w2 b→Nw w (ansW w2 w.heap.size (.string (st x.1.name)) (.slice aoa x.1.ats.length capa) (.string (st [])) (.slice aok x.1.kids.len capk)) b∧(ansW w2 w.heap.size (.string (st x.1.name)) (.slice aoa x.1.ats.length capa) (.string (st [])) (.slice aok x.1.kids.len capk)).heap[b]? = w2.heap[b]?:=by
   intro b hb;have hb1:=hb.1;have hb2:=hb.2;have hne:b ≠ w.heap.size:=by omega
   refine⟨⟨by omega,by simpa [ansW,World.setCell] using hb2⟩,?_⟩;unfold ansW;rw[Below.heap_setCell _ ⟨w.heap.size,3,none⟩ _ b hne,Below.heap_setCell _ ⟨w.heap.size,2,none⟩ _ b hne,Below.heap_setCell _ ⟨w.heap.size,1,none⟩ _ b hne,Below.heap_setCell _ ⟨w.heap.size,0,none⟩ _ b hne]
  have FIN:=Ld (And.intro B3 (And.intro (hva.frame kp) (hvk.frame kp)));unfold z0d;clear hb hva hvk AL CB NB B2 B3 kp hNl hsz;go_wp2_with fail;refine bodyPost_ret (v:=.tuple #[z0d x.1.name (.slice aoa x.1.ats.length capa) [] (.slice aok x.1.kids.len capk),.int .i64 x.2]) (by simp[results,results16,go_sem, *];rfl) rfl ?_;exact⟨FIN.out.1,_,_,rfl,FIN.out.2.1,FIN.out.2.2⟩
end Go.Proofs.YtagleefekmdldaaGreatDoor
