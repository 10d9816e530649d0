/- Contract of the strict reader's All. Condition: a text of at most 100000 bytes. -/
import Derived.Test.YtjonkbdldebkiaaGreatDoorYMkBegunD
import Derived.Test.YtjonkbdldebkiaaGreatDoorYMkTok7
set_option linter.unusedVariables false
set_option linter.unusedSimpArgs false
set_option maxHeartbeats 8000000
set_option maxRecDepth 100000
namespace Go.Proofs.YtjonkbdldebkiaaGreatDoor
open Go.RowKit
theorem j2w (C E:Nat) (w:World) (a b c d f:Value) (hC:Blk w C 53 #[a,b,c,d]) (hE:Blk w E 28 #[f]) (hCE:C ≠ E) (er:Int) (older:List PanicEntry) :
  CallsD Tryz.prog 163 #[.pointer (some ⟨C,0,none⟩),.pointer (some ⟨E,0,none⟩)] (.panicking ({ v:=.iface 28 (.int .i64 er),recovered:=false } :: older)) w fun e u' w' =>
   e=.returned (.tuple #[])∧u'=.panicking ({ v:=.iface 28 (.int .i64 er),recovered:=true } :: older)∧Blk w' C 53 j6v∧Blk w' E 28 #[.int .i64 er]∧Ap (fun b=>b=C∨b=E) w w':=by
 have c0:w.cell? ⟨C,0,none⟩=some a:=Blk.cell hC 0;have c1:w.cell? ⟨C,1,none⟩=some b:=Blk.cell hC 1;have c2:w.cell? ⟨C,2,none⟩=some c:=Blk.cell hC 2;have c3:w.cell? ⟨C,3,none⟩=some d:=Blk.cell hC 3;have y:∀ i,w.frozen? ⟨C,i,none⟩=false:=Blk.frozen hC;have hEn:Blk (ansW w C (.string ⟨#[]⟩) (.slice none 0 0) (.string ⟨#[]⟩) (.slice none 0 0)) E 28 #[f] :=
  Blk.far (Blk.far (Blk.far (Blk.far hE (p:=⟨C,0,none⟩) (fun e=>hCE e.symm) _) (p:=⟨C,1,none⟩) (fun e=>hCE e.symm) _) (p:=⟨C,2,none⟩) (fun e=>hCE e.symm) _) (p:=⟨C,3,none⟩) (fun e=>hCE e.symm) _
 have hCn:Blk (ansW w C (.string ⟨#[]⟩) (.slice none 0 0) (.string ⟨#[]⟩) (.slice none 0 0)) C 53 j6v:=Blk.set_ (Blk.set_ (Blk.set_ (Blk.set_ hC 0 _) 1 _) 2 _) 3 _;have hAn:Ap (fun b=>b=C∨b=E) w (ansW w C (.string ⟨#[]⟩) (.slice none 0 0) (.string ⟨#[]⟩) (.slice none 0 0)):=((((Ap.refl (fun b=>b=C∨b=E) w).setCell (p:=⟨C,0,none⟩) (.inl rfl) _).setCell (p:=⟨C,1,none⟩) (.inl rfl) _).setCell (p:=⟨C,2,none⟩) (.inl rfl) _).setCell (p:=⟨C,3,none⟩) (.inl rfl) _;have e0:(ansW w C (.string ⟨#[]⟩) (.slice none 0 0) (.string ⟨#[]⟩) (.slice none 0 0)).cell? ⟨E,0,none⟩=some f:=Blk.cell hEn 0;have e1:=Blk.frozen hEn 0;have FIN:=Lib.hid (And.intro (Blk.far hCn (p:=⟨E,0,none⟩) hCE (.int .i64 er)) (And.intro (Blk.set_ hEn 0 (.int .i64 er)) (hAn.setCell (p:=⟨E,0,none⟩) (.inr rfl) (.int .i64 er))));unfold ansW at e0 e1;clear hC hE hEn hCn hAn;have hta:∀ W:World,(Instr.typeAssert (.iface 28 (.int .i64 er)) 20 28 true).run Tryz.prog W=.ok (.tuple #[.int .i64 er,.bool true]) W:=fun _=>by kernel_rfl
 refine callsD_of_wpS Tryz.func163 rfl fun c₀ cs hu=>?_
 apply wpS_seq
 apply wpS_region
 simp[wpOpsS,go_sem,recoverD,hu,Tryz.ntmps163,Exit.thenS];refine wpS_of_wp ?_;change Code.wp _ _ _ { tmps:=#[.pointer (some ⟨C,0,none⟩),.pointer (some ⟨E,0,none⟩),.iface 28 (.int .i64 er),undef,undef,.iface 28 (.int .i64 er),undef,undef,undef,undef,undef,undef,undef,undef,undef,undef,undef,undef],defers:=[] } w;go_wp2_with fail
 cases c₀
 simp only [bodyPostS];refine⟨trivial,_,rfl,_,by simp[results,Tryz.results163],rfl,rfl,FIN.out.1,FIN.out.2.1,FIN.out.2.2⟩
theorem j1e (C E:Nat) (w:World) :
  CallsD Tryz.prog 163 #[.pointer (some ⟨C,0,none⟩),.pointer (some ⟨E,0,none⟩)] .returning w fun e u' w'=>e=.returned (.tuple #[])∧u'=.returning∧w'=w:=by
 refine callsD_of_wpS Tryz.func163 rfl fun c₀ cs hu=>?_
 apply wpS_seq
 apply wpS_region
 simp[wpOpsS,go_sem,recoverD,hu,Tryz.ntmps163,Exit.thenS];refine wpS_of_wp ?_;change Code.wp _ _ _ { tmps:=#[.pointer (some ⟨C,0,none⟩),.pointer (some ⟨E,0,none⟩),.nilIface,undef,undef,.nilIface,undef,undef,undef,undef,undef,undef,undef,undef,undef,undef,undef,undef],defers:=[] } w;go_wp2_with fail
 cases c₀
 simp_all [bodyPostS,results,Tryz.results163]
structure AlI (w wx:World) (C E R:Nat) (s:ByteArray) (j:Nat) (a b c d:Value):Prop where
 x:Xr wx R s j
 bl:Below w.heap.size w wx
 wc:w.heap.size≤C
 ce:C < E
 er:E < R
 cb:Blk wx C 53 #[a,b,c,d]
 eb:Blk wx E 28 #[.int .i64 0]
section
variable {w wx wy : World} {C E R : Nat} {s : ByteArray} {j j' : Nat} {a b c d : Value}
theorem AlI.ap2 (h:AlI w wx C E R s j a b c d) (ha:Ap (fun b=>b=R) wx wy) (hx:Xr wy R s j'):AlI w wy C E R s j' a b c d:=by
 have h1:=h.wc;have h2:=h.ce;have h3:=h.er;exact⟨hx,h.bl.trans (ha.below h.bl.size (fun k hk e=>by have e:k=R:=e;omega)),h.wc,h.ce,h.er,h.cb.ap ha (fun e=>by have e:C=R:=e;omega),h.eb.ap ha (fun e=>by have e:E=R:=e;omega)⟩
theorem AlI.gave (h:AlI w wx C E R s j a b c d) (ha:Ap (fun b=>b=R) wx wy):Below w.heap.size w wy∧Blk wy C 53 #[a,b,c,d]∧Blk wy E 28 #[.int .i64 0]:=by
 have h1:=h.wc;have h2:=h.ce;have h3:=h.er;exact⟨h.bl.trans (ha.below h.bl.size (fun k hk e=>by have e:k=R:=e;omega)),h.cb.ap ha (fun e=>by have e:C=R:=e;omega),h.eb.ap ha (fun e=>by have e:E=R:=e;omega)⟩
theorem AlI.put (h:AlI w wx C E R s j a b c d) (a' b' c' d':Value):AlI w (ansW wx C a' b' c' d') C E R s j a' b' c' d':=by
 have h1:=h.wc;have h2:=h.ce;have h3:=h.er;have n1:R ≠ C:=by omega
 have n2:E ≠ C:=by omega
 refine⟨?_,?_,h.wc,h.ce,h.er,Blk.set_ (Blk.set_ (Blk.set_ (Blk.set_ h.cb 0 _) 1 _) 2 _) 3 _,?_⟩
 ·exact Blk.far (Blk.far (Blk.far (Blk.far h.x (p:=⟨C,0,none⟩) n1 _) (p:=⟨C,1,none⟩) n1 _) (p:=⟨C,2,none⟩) n1 _) (p:=⟨C,3,none⟩) n1 _
 ·exact(((h.bl.setCell (p:=⟨C,0,none⟩) h1 _).setCell (p:=⟨C,1,none⟩) h1 _).setCell (p:=⟨C,2,none⟩) h1 _).setCell (p:=⟨C,3,none⟩) h1 _
 ·exact Blk.far (Blk.far (Blk.far (Blk.far h.eb (p:=⟨C,0,none⟩) n2 _) (p:=⟨C,1,none⟩) n2 _) (p:=⟨C,2,none⟩) n2 _) (p:=⟨C,3,none⟩) n2 _
end
def z2z (s:List UInt8) (w:World) (e:Ending) (w':World):Prop:=Below w.heap.size w w'∧∃ va vk,e=.returned (.tuple #[V4 (Fd.xmlR s).1.name va [] vk,.int .i64 (Fd.xmlR s).2])∧AtsV w' (Nw w w') va (Fd.xmlR s).1.ats∧FoV w' (Nw w w') vk (Fd.xmlR s).1.kids
theorem z2z.gave {s:List UInt8} {w wx w':World} {C E:Nat} {er:Int} (hb:Below w.heap.size w wx) (hC:w.heap.size≤C) (hE:w.heap.size≤E) (ha:Ap (fun b=>b=C∨b=E) wx w') (hx:Fd.xmlR s=(⟨[],[],.nil⟩,er)) :
  z2z s w (.returned (.tuple #[.agg #[.string ⟨#[]⟩,.slice none 0 0,.string ⟨#[]⟩,.slice none 0 0],.int .i64 er])) w':=by
 unfold z2z;rw[hx];exact⟨hb.trans (ha.below hb.size (by rintro k hk (e | e) <;> omega)),.slice none 0 0,.slice none 0 0,rfl,AtsV.nil _ _,⟨none,0,[],rfl,.inl rfl,rfl,Nat.zero_le _⟩⟩
theorem xm_All (s:List UInt8) (w:World) (hg:Gl w) (hs:s.length≤100000) :
  Calls Tryz.prog 100 #[.string (st s)] w fun e w'=>z2z s w e w':=by
 have hmf:∀ (fn:Fn) (first cap:Array Value) (w:World),(Instr.makeFunc fn first cap).run Tryz.prog w=.ok (.func fn first cap) w:=fun _ _ _ _=>rfl
 have hlt:=hg.lt;have hz:(st s).size=s.length:=y9 s;have I0:Hid (AlI w (((w.alloc (.cells #[.string ⟨#[]⟩,.slice none 0 0,.string ⟨#[]⟩,.slice none 0 0] 53)).alloc (.cells #[.int .i64 0] 28)).alloc (.cells #[.string (st s),.int .i64 0] 217)) w.heap.size (w.heap.size + 1) (w.heap.size + 1 + 1) (st s) 0 (.string ⟨#[]⟩) (.slice none 0 0) (.string ⟨#[]⟩) (.slice none 0 0)):=by
  have b0:=Blk.new w 53 #[.string ⟨#[]⟩,.slice none 0 0,.string ⟨#[]⟩,.slice none 0 0];have b1:=Blk.new (w.alloc (.cells #[.string ⟨#[]⟩,.slice none 0 0,.string ⟨#[]⟩,.slice none 0 0] 53)) 28 #[.int .i64 0];have b2:=Blk.new ((w.alloc (.cells #[.string ⟨#[]⟩,.slice none 0 0,.string ⟨#[]⟩,.slice none 0 0] 53)).alloc (.cells #[.int .i64 0] 28)) 217 #[.string (st s),.int .i64 0];simp only [World.size_alloc] at b1 b2;exact⟨b2,(((Below.refl _ w).alloc (Nat.le_refl _) _).alloc (by simp) _).alloc (by simp;omega) _,Nat.le_refl _,by omega,by omega,Blk.alloc (Blk.alloc b0 _) _,Blk.alloc b1 _⟩
 have HG:=Lib.hid hg;have HQ:=Lib.hid (Fd.y0v s);have h0:(st s).data.toList.drop 0=s:=rfl;clear hg;have HM:=Lib.hid (y0x (HG.out.below I0.out.bl hlt) (by omega:4 < w.heap.size + 1 + 1) I0.out.x (Nat.zero_le _) (by rw[hz];omega));rw[h0] at HM
 go_enter_defers Tryz.func100,Tryz.ntmps100
 go_wp2_with fail;generalize (((w.alloc (.cells #[.string ⟨#[]⟩,.slice none 0 0,.string ⟨#[]⟩,.slice none 0 0] 53)).alloc (.cells #[.int .i64 0] 28)).alloc (.cells #[.string (st s),.int .i64 0] 217))=w3 at I0 HM ⊢;have hCE:w.heap.size ≠ w.heap.size + 1:=by omega
 have hR:4 < w.heap.size + 1 + 1:=by omega
 generalize w.heap.size + 1 + 1=R at I0 HM hR ⊢;generalize hE1:w.heap.size + 1=E at I0 hCE ⊢;generalize hC1:w.heap.size=C at I0 hCE ⊢;have hCC:w.heap.size≤C:=by omega
 have hEE:w.heap.size≤E:=by omega
 clear hE1 hC1;refine HM.out.mono ?_;rintro e w4 (⟨hm,rfl,hmv⟩ | ⟨j1,hm,rfl,hj0,hj1,hx,hmv⟩)
 ·as_aux_lemma =>
  have GV:=Lib.hid (I0.out.gave hmv.ap);have HXQ:Hid (Fd.xmlR s=(⟨[],[],.nil⟩,1)):=by show _=_;rw[HQ.out,hm]
  clear hm hmv HM I0;go_wp2_with fail;refine leaves_cons (f:=163) (args:=#[.pointer (some ⟨C,0,none⟩),.pointer (some ⟨E,0,none⟩)]) (by simp) (by simp[go_sem]) ?_;refine(j2w C E w4 _ _ _ _ _ GV.out.2.1 GV.out.2.2 hCE _ []).mono ?_;rintro e u' wz ⟨rfl,rfl,hcz,hez,haz⟩;have z0:wz.cell? ⟨C,0,none⟩=some (.string ⟨#[]⟩):=Blk.cell hcz 0;have z1:wz.cell? ⟨C,1,none⟩=some (.slice none 0 0):=Blk.cell hcz 1;have z2:wz.cell? ⟨C,2,none⟩=some (.string ⟨#[]⟩):=Blk.cell hcz 2;have z3:wz.cell? ⟨C,3,none⟩=some (.slice none 0 0):=Blk.cell hcz 3;have z4:wz.cell? ⟨E,0,none⟩=some (.int .i64 1):=Blk.cell hez 0;have FIN:=Lib.hid (z2z.gave GV.out.1 hCC hEE haz HXQ.out);clear hcz hez haz HQ;simp[Leaves,settle,results,Tryz.results100,go_sem,z0,z1,z2,z3,z4];exact FIN.out
 have HMI:=Lib.hid hm;have I1:=Lib.hid (I0.out.ap2 hmv.ap hx);clear hm hmv hx HM I0;have HEL:=Lib.hid ((xr_both hR (by omega:(st s).size≤100000) ((st s).size - j1 + 1)).1 1 j1 w4 (Nat.lt_succ_self _) hj1 (by decide) (by decide) (HG.out.below I1.out.bl hlt) I1.out.x);go_wp2_with fail;refine HEL.out.mono ?_;rintro e w5 (⟨er,he,rfl,hap⟩ | ⟨x,j2,va,vk,he,rfl,hj2,hjs2,hx,hap,hva,hvk,hxn⟩)
 ·as_aux_lemma =>
  have GV:=Lib.hid (I1.out.gave hap);have HXQ:Hid (Fd.xmlR s=(⟨[],[],.nil⟩,er)):=by show _=_;rw[HQ.out,HMI.out];simp only;rw[he]
  clear he hap HEL I1 HMI;go_wp2_with fail;refine leaves_cons (f:=163) (args:=#[.pointer (some ⟨C,0,none⟩),.pointer (some ⟨E,0,none⟩)]) (by simp) (by simp[go_sem]) ?_;refine(j2w C E w5 _ _ _ _ _ GV.out.2.1 GV.out.2.2 hCE _ []).mono ?_;rintro e u' wz ⟨rfl,rfl,hcz,hez,haz⟩;have z0:wz.cell? ⟨C,0,none⟩=some (.string ⟨#[]⟩):=Blk.cell hcz 0;have z1:wz.cell? ⟨C,1,none⟩=some (.slice none 0 0):=Blk.cell hcz 1;have z2:wz.cell? ⟨C,2,none⟩=some (.string ⟨#[]⟩):=Blk.cell hcz 2;have z3:wz.cell? ⟨C,3,none⟩=some (.slice none 0 0):=Blk.cell hcz 3;have z4:wz.cell? ⟨E,0,none⟩=some (.int .i64 er):=Blk.cell hez 0;have FIN:=Lib.hid (z2z.gave GV.out.1 hCC hEE haz HXQ.out);clear hcz hez haz HQ;simp[Leaves,settle,results,Tryz.results100,go_sem,z0,z1,z2,z3,z4];exact FIN.out
 have HEI:=Lib.hid he;have I2:=Lib.hid (I1.out.ap2 hap hx);have h45:=hap.size;have h34:=I1.out.bl.size;obtain⟨aoa,capa,hva1,_⟩:=id hva;subst hva1;obtain⟨aok,capk,xsk,hvk1,_⟩:=id hvk;subst hvk1;have hCl:C < w4.heap.size:=Blk.lt I1.out.cb;have hRl:R < w4.heap.size:=Blk.lt I1.out.x;have HVA:=Lib.hid (And.intro hva hvk);clear he hap hx HEL hva hvk hxn I1;have c0:w5.cell? ⟨C,0,none⟩=some (.string ⟨#[]⟩):=Blk.cell I2.out.cb 0;have c1:w5.cell? ⟨C,1,none⟩=some (.slice none 0 0):=Blk.cell I2.out.cb 1;have c2:w5.cell? ⟨C,2,none⟩=some (.string ⟨#[]⟩):=Blk.cell I2.out.cb 2;have c3:w5.cell? ⟨C,3,none⟩=some (.slice none 0 0):=Blk.cell I2.out.cb 3;have y:∀ i,w5.frozen? ⟨C,i,none⟩=false:=Blk.frozen I2.out.cb;have I3:=Lib.hid (I2.out.put (.string (st x.name)) (.slice aoa x.ats.length capa) (.string (st [])) (.slice aok x.kids.len capk));have keep:∀ b,Nw w4 w5 b→Nw w5 (ansW w5 C (.string (st x.name)) (.slice aoa x.ats.length capa) (.string (st [])) (.slice aok x.kids.len capk)) b∨True:=fun _ _=>.inr trivial
 clear keep;have HV3:Hid (AtsV (ansW w5 C (.string (st x.name)) (.slice aoa x.ats.length capa) (.string (st [])) (.slice aok x.kids.len capk)) (Nw w4 w5) (.slice aoa x.ats.length capa) x.ats∧FoV (ansW w5 C (.string (st x.name)) (.slice aoa x.ats.length capa) (.string (st [])) (.slice aok x.kids.len capk)) (Nw w4 w5) (.slice aok x.kids.len capk) x.kids∧(ansW w5 C (.string (st x.name)) (.slice aoa x.ats.length capa) (.string (st [])) (.slice aok x.kids.len capk)).heap.size=w5.heap.size):=by
  have kp:∀ b,Nw w4 w5 b→Nw w4 w5 b∧(ansW w5 C (.string (st x.name)) (.slice aoa x.ats.length capa) (.string (st [])) (.slice aok x.kids.len capk)).heap[b]? = w5.heap[b]?:=by
   intro b hb;have hne:b ≠ C:=by have:=hb.1;omega
   refine⟨hb,?_⟩;unfold ansW;rw[Below.heap_setCell _ ⟨C,3,none⟩ _ b hne,Below.heap_setCell _ ⟨C,2,none⟩ _ b hne,Below.heap_setCell _ ⟨C,1,none⟩ _ b hne,Below.heap_setCell _ ⟨C,0,none⟩ _ b hne]
  exact⟨HVA.out.1.frame kp,HVA.out.2.frame kp,by simp[ansW,World.setCell]⟩
 clear HVA I2;unfold V4;go_upto_region 5 with fail;change Code.wp _ _ _ _ (ansW w5 C (.string (st x.name)) (.slice aoa x.ats.length capa) (.string (st [])) (.slice aok x.kids.len capk));clear c0 c1 c2 c3 y;generalize ansW w5 C (.string (st x.name)) (.slice aoa x.ats.length capa) (.string (st [])) (.slice aok x.kids.len capk)=w6 at I3 HV3 ⊢;have HM2:=Lib.hid (y0x (HG.out.below I3.out.bl hlt) hR I3.out.x hjs2 (by omega));go_wp2_with fail;refine HM2.out.mono ?_;rintro e w7 (⟨hm,rfl,hmv⟩ | ⟨j3,hm,rfl,hj3,hjs3,hx,hmv⟩)
 ·as_aux_lemma =>
  have GV:=Lib.hid (I3.out.gave hmv.ap);have HXQ:Hid (Fd.xmlR s=(⟨[],[],.nil⟩,1)):=by show _=_;rw[HQ.out,HMI.out];simp only;rw[HEI.out];simp only;rw[hm]
  clear hm hmv HM2 I3 HV3;go_wp2_with fail;refine leaves_cons (f:=163) (args:=#[.pointer (some ⟨C,0,none⟩),.pointer (some ⟨E,0,none⟩)]) (by simp) (by simp[go_sem]) ?_;refine(j2w C E w7 _ _ _ _ _ GV.out.2.1 GV.out.2.2 hCE _ []).mono ?_;rintro e u' wz ⟨rfl,rfl,hcz,hez,haz⟩;have z0:wz.cell? ⟨C,0,none⟩=some (.string ⟨#[]⟩):=Blk.cell hcz 0;have z1:wz.cell? ⟨C,1,none⟩=some (.slice none 0 0):=Blk.cell hcz 1;have z2:wz.cell? ⟨C,2,none⟩=some (.string ⟨#[]⟩):=Blk.cell hcz 2;have z3:wz.cell? ⟨C,3,none⟩=some (.slice none 0 0):=Blk.cell hcz 3;have z4:wz.cell? ⟨E,0,none⟩=some (.int .i64 1):=Blk.cell hez 0;have FIN:=Lib.hid (z2z.gave GV.out.1 hCC hEE haz HXQ.out);clear hcz hez haz HQ;simp[Leaves,settle,results,Tryz.results100,go_sem,z0,z1,z2,z3,z4];exact FIN.out
 have I4:=Lib.hid (I3.out.ap2 hmv.ap hx);have HXE:Hid (Fd.xmlR s=if s.drop j3=[] then (x,0) else (⟨[],[],.nil⟩,1)):=by show _=_;rw[HQ.out,HMI.out];simp only;rw[HEI.out];simp only;rw[hm];rfl
 have h76:=hmv.size;have HV4:Hid (AtsV w7 (Nw w4 w5) (.slice aoa x.ats.length capa) x.ats∧FoV w7 (Nw w4 w5) (.slice aok x.kids.len capk) x.kids):=by
  have kp:∀ b,Nw w4 w5 b→Nw w4 w5 b∧w7.heap[b]? = w6.heap[b]?:=fun b hb=>⟨hb,hmv.block b (by have:=hb.1;omega)⟩
  exact⟨HV3.out.1.frame kp,HV3.out.2.1.frame kp⟩
 have h65:=HV3.out.2.2;clear hm hmv hx HM2 I3 HMI HEI HV3;have r0:=I4.out.x.c0;have r1:=I4.out.x.c1
 by_cases hend:j3 < (st s).size
 ·as_aux_lemma =>
  have GV:=Lib.hid (I4.out.gave (Ap.refl _ _));have HXQ:Hid (Fd.xmlR s=(⟨[],[],.nil⟩,1)):=by
   show _=_;rw[HXE.out,if_neg];intro q;have:=congrArg List.length q;rw[List.length_drop] at this;simp at this;omega
  have hji:(j3:Int) < (st s).size:=by omega
  clear HV4 I4;go_wp2_with fail;refine(z3z 1 _).mono ?_;rintro e w8 ⟨rfl,hw8⟩;subst w8;go_wp2_with fail;refine leaves_cons (f:=163) (args:=#[.pointer (some ⟨C,0,none⟩),.pointer (some ⟨E,0,none⟩)]) (by simp) (by simp[go_sem]) ?_;refine(j2w C E w7 _ _ _ _ _ GV.out.2.1 GV.out.2.2 hCE _ []).mono ?_;rintro e u' wz ⟨rfl,rfl,hcz,hez,haz⟩;have z0:wz.cell? ⟨C,0,none⟩=some (.string ⟨#[]⟩):=Blk.cell hcz 0;have z1:wz.cell? ⟨C,1,none⟩=some (.slice none 0 0):=Blk.cell hcz 1;have z2:wz.cell? ⟨C,2,none⟩=some (.string ⟨#[]⟩):=Blk.cell hcz 2;have z3:wz.cell? ⟨C,3,none⟩=some (.slice none 0 0):=Blk.cell hcz 3;have z4:wz.cell? ⟨E,0,none⟩=some (.int .i64 1):=Blk.cell hez 0;have FIN:=Lib.hid (z2z.gave GV.out.1 hCC hEE haz HXQ.out);clear hcz hez haz HQ;simp[Leaves,settle,results,Tryz.results100,go_sem,z0,z1,z2,z3,z4];exact FIN.out
 have HXQ:Hid (Fd.xmlR s=(x,0)):=by
  show _=_;rw[HXE.out,if_pos (List.drop_of_length_le (by omega))]
 have hji:¬ (j3:Int) < (st s).size:=by omega
 clear HXE HQ;have c0:w7.cell? ⟨C,0,none⟩=some (.string (st x.name)):=Blk.cell I4.out.cb 0;have c1:w7.cell? ⟨C,1,none⟩=some (.slice aoa x.ats.length capa):=Blk.cell I4.out.cb 1;have c2:w7.cell? ⟨C,2,none⟩=some (.string (st [])):=Blk.cell I4.out.cb 2;have c3:w7.cell? ⟨C,3,none⟩=some (.slice aok x.kids.len capk):=Blk.cell I4.out.cb 3;have y:∀ i,w7.frozen? ⟨C,i,none⟩=false:=Blk.frozen I4.out.cb;have I5:=I4.out.put (.string (st x.name)) (.slice aoa x.ats.length capa) (.string (st [])) (.slice aok x.kids.len capk);have e0:(ansW w7 C (.string (st x.name)) (.slice aoa x.ats.length capa) (.string (st [])) (.slice aok x.kids.len capk)).cell? ⟨E,0,none⟩=some (.int .i64 0):=Blk.cell I5.eb 0;have e1:=Blk.frozen I5.eb 0;have B5:=Lib.hid ((I5.bl.setCell (p:=⟨E,0,none⟩) hEE (.int .i64 0)));have CB5:=Lib.hid (Blk.far I5.cb (p:=⟨E,0,none⟩) hCE (.int .i64 0));have EB5:=Lib.hid (Blk.set_ I5.eb 0 (.int .i64 0));have HV5:Hid (AtsV ((ansW w7 C (.string (st x.name)) (.slice aoa x.ats.length capa) (.string (st [])) (.slice aok x.kids.len capk)).setCell ⟨E,0,none⟩ (.int .i64 0)) (Nw w ((ansW w7 C (.string (st x.name)) (.slice aoa x.ats.length capa) (.string (st [])) (.slice aok x.kids.len capk)).setCell ⟨E,0,none⟩ (.int .i64 0))) (.slice aoa x.ats.length capa) x.ats∧FoV ((ansW w7 C (.string (st x.name)) (.slice aoa x.ats.length capa) (.string (st [])) (.slice aok x.kids.len capk)).setCell ⟨E,0,none⟩ (.int .i64 0)) (Nw w ((ansW w7 C (.string (st x.name)) (.slice aoa x.ats.length capa) (.string (st [])) (.slice aok x.kids.len capk)).setCell ⟨E,0,none⟩ (.int .i64 0))) (.slice aok x.kids.len capk) x.kids):=by
  have hsz:((ansW w7 C (.string (st x.name)) (.slice aoa x.ats.length capa) (.string (st [])) (.slice aok x.kids.len capk)).setCell ⟨E,0,none⟩ (.int .i64 0)).heap.size=w7.heap.size:=by simp[ansW,World.setCell]
  have hER:=I4.out.er;have kp:∀ b,Nw w4 w5 b→Nw w ((ansW w7 C (.string (st x.name)) (.slice aoa x.ats.length capa) (.string (st [])) (.slice aok x.kids.len capk)).setCell ⟨E,0,none⟩ (.int .i64 0)) b∧((ansW w7 C (.string (st x.name)) (.slice aoa x.ats.length capa) (.string (st [])) (.slice aok x.kids.len capk)).setCell ⟨E,0,none⟩ (.int .i64 0)).heap[b]? = w7.heap[b]?:=by
   intro b hb;have hb1:=hb.1;have hb2:=hb.2;have hne:b ≠ C:=by omega
   have hne2:b ≠ E:=by omega
   refine⟨⟨by omega,by rw[hsz];omega⟩,?_⟩;unfold ansW;rw[Below.heap_setCell _ ⟨E,0,none⟩ _ b hne2,Below.heap_setCell _ ⟨C,3,none⟩ _ b hne,Below.heap_setCell _ ⟨C,2,none⟩ _ b hne,Below.heap_setCell _ ⟨C,1,none⟩ _ b hne,Below.heap_setCell _ ⟨C,0,none⟩ _ b hne]
  exact⟨HV4.out.1.frame kp,HV4.out.2.frame kp⟩
 unfold ansW at e0 e1;clear I5 I4 HV4;go_wp2_with fail;change Leaves _ _ _ _ _ _ ((ansW w7 C (.string (st x.name)) (.slice aoa x.ats.length capa) (.string (st [])) (.slice aok x.kids.len capk)).setCell ⟨E,0,none⟩ (.int .i64 0));generalize (ansW w7 C (.string (st x.name)) (.slice aoa x.ats.length capa) (.string (st [])) (.slice aok x.kids.len capk)).setCell ⟨E,0,none⟩ (.int .i64 0)=w8 at B5 CB5 EB5 HV5 ⊢;clear e0 e1 c0 c1 c2 c3 y;refine leaves_cons (f:=163) (args:=#[.pointer (some ⟨C,0,none⟩),.pointer (some ⟨E,0,none⟩)]) (by simp) (by simp[go_sem]) ?_;refine(j1e C E w8).mono ?_;rintro e u' wz ⟨rfl,rfl,hwz⟩;subst wz;have z0:w8.cell? ⟨C,0,none⟩=some (.string (st x.name)):=Blk.cell CB5.out 0;have z1:w8.cell? ⟨C,1,none⟩=some (.slice aoa x.ats.length capa):=Blk.cell CB5.out 1;have z2:w8.cell? ⟨C,2,none⟩=some (.string (st [])):=Blk.cell CB5.out 2;have z3:w8.cell? ⟨C,3,none⟩=some (.slice aok x.kids.len capk):=Blk.cell CB5.out 3;have z4:w8.cell? ⟨E,0,none⟩=some (.int .i64 0):=Blk.cell EB5.out 0;have FIN:Hid (z2z s w (.returned (.tuple #[.agg #[.string (st x.name),.slice aoa x.ats.length capa,.string (st []),.slice aok x.kids.len capk],.int .i64 0])) w8):=by
  show z2z _ _ _ _;unfold z2z;rw[HXQ.out];exact⟨B5.out,_,_,rfl,HV5.out.1,HV5.out.2⟩
 clear HXQ;simp[Leaves,settle,results,Tryz.results100,go_sem,z0,z1,z2,z3,z4];exact FIN.out
theorem xm_Read (s:List UInt8) (w:World) (hg:Gl w) :
  Calls Tryz.prog 57 #[.string (st s)] w fun e w'=>Below w.heap.size w w'∧∃ va vk,e=.returned (.tuple #[V4 (Fd.xmlM s).1.name va [] vk,.int .i64 (Fd.xmlM s).2])∧AtsV w' (Nw w w') va (Fd.xmlM s).1.ats∧FoV w' (Nw w w') vk (Fd.xmlM s).1.kids:=by
 have hz:(st s).size=s.length:=y9 s;have hal:=(Below.refl w.heap.size w).alloc (Nat.le_refl _) (.cells #[.string ⟨#[]⟩,.slice none 0 0,.string ⟨#[]⟩,.slice none 0 0] 53);have hcb:=Blk.new w 53 #[.string ⟨#[]⟩,.slice none 0 0,.string ⟨#[]⟩,.slice none 0 0]
 by_cases h:3000 < s.length
 ·have HX:Hid (Fd.xmlM s=(⟨[],[],.nil⟩,2)):=by show _=_;rw[Fd.xmlM,if_pos h]
  have h2:3000 < (st s).size:=by omega
  have B3:=Lib.hid hal;clear hz h hal hcb;go_enter Tryz.func57,Tryz.ntmps57;go_wp2_with fail;refine bodyPost_ret (v:=.tuple #[V4 [] (.slice none 0 0) [] (.slice none 0 0),.int .i64 2]) (by simp[results,Tryz.results57,go_sem, *];rfl) rfl ?_;rw[HX.out];exact⟨B3.out,.slice none 0 0,.slice none 0 0,rfl,AtsV.nil _ _,⟨none,0,[],rfl,.inl rfl,rfl,Nat.zero_le _⟩⟩
 ·have HX:Hid (Fd.xmlM s=Fd.xmlR s):=by show _=_;rw[Fd.xmlM,if_neg h]
  have h2:¬ 3000 < (st s).size:=by omega
  have HA:=Lib.hid (xm_All s (w.alloc (.cells #[.string ⟨#[]⟩,.slice none 0 0,.string ⟨#[]⟩,.slice none 0 0] 53)) (hg.alloc _) (by omega));have AL:=Lib.hid hal;have CB:=Lib.hid hcb;unfold z2z at HA;rw[← HX.out] at HA;generalize Fd.xmlM s=x at HA ⊢;clear hz h hal hcb hg HX;go_enter Tryz.func57,Tryz.ntmps57;go_wp2_with fail;refine HA.out.mono ?_;rintro e w2 ⟨hb,va,vk,rfl,hva,hvk⟩;clear HA;obtain⟨aoa,capa,hva1,_⟩:=id hva;subst hva1;obtain⟨aok,capk,xsk,hvk1,_⟩:=id hvk;subst hvk1;have hsz:=AL.out.size;have hNl:w.heap.size < (w.alloc (.cells #[.string ⟨#[]⟩,.slice none 0 0,.string ⟨#[]⟩,.slice none 0 0] 53)).heap.size:=by simp
  have NB:Blk w2 w.heap.size 53 #[.string ⟨#[]⟩,.slice none 0 0,.string ⟨#[]⟩,.slice none 0 0]:=(hb.block _ hNl).trans CB.out;have B2:=AL.out.trans (hb.mono hsz);have c0:w2.cell? ⟨w.heap.size,0,none⟩=some (.string ⟨#[]⟩):=Blk.cell NB 0;have c1:w2.cell? ⟨w.heap.size,1,none⟩=some (.slice none 0 0):=Blk.cell NB 1;have c2:w2.cell? ⟨w.heap.size,2,none⟩=some (.string ⟨#[]⟩):=Blk.cell NB 2;have c3:w2.cell? ⟨w.heap.size,3,none⟩=some (.slice none 0 0):=Blk.cell NB 3;have y:∀ i,w2.frozen? ⟨w.heap.size,i,none⟩=false:=Blk.frozen NB;have B3:Below w.heap.size w (ansW w2 w.heap.size (.string (st x.1.name)) (.slice aoa x.1.ats.length capa) (.string (st [])) (.slice aok x.1.kids.len capk)) :=
   (((B2.setCell (p:=⟨w.heap.size,0,none⟩) (Nat.le_refl _) _).setCell (p:=⟨w.heap.size,1,none⟩) (Nat.le_refl _) _).setCell (p:=⟨w.heap.size,2,none⟩) (Nat.le_refl _) _).setCell (p:=⟨w.heap.size,3,none⟩) (Nat.le_refl _) _
  have kp:∀ b,Nw (w.alloc (.cells #[.string ⟨#[]⟩,.slice none 0 0,.string ⟨#[]⟩,.slice none 0 0] 53)) w2 b→Nw w (ansW w2 w.heap.size (.string (st x.1.name)) (.slice aoa x.1.ats.length capa) (.string (st [])) (.slice aok x.1.kids.len capk)) b∧(ansW w2 w.heap.size (.string (st x.1.name)) (.slice aoa x.1.ats.length capa) (.string (st [])) (.slice aok x.1.kids.len capk)).heap[b]? = w2.heap[b]?:=by
   intro b hb;have hb1:=hb.1;have hb2:=hb.2;have hne:b ≠ w.heap.size:=by omega
   refine⟨⟨by omega,by simpa [ansW,World.setCell] using hb2⟩,?_⟩;unfold ansW;rw[Below.heap_setCell _ ⟨w.heap.size,3,none⟩ _ b hne,Below.heap_setCell _ ⟨w.heap.size,2,none⟩ _ b hne,Below.heap_setCell _ ⟨w.heap.size,1,none⟩ _ b hne,Below.heap_setCell _ ⟨w.heap.size,0,none⟩ _ b hne]
  have FIN:=Lib.hid (And.intro B3 (And.intro (hva.frame kp) (hvk.frame kp)));unfold V4;clear hb hva hvk AL CB NB B2 B3 kp hNl hsz;go_wp2_with fail;refine bodyPost_ret (v:=.tuple #[V4 x.1.name (.slice aoa x.1.ats.length capa) [] (.slice aok x.1.kids.len capk),.int .i64 x.2]) (by simp[results,Tryz.results57,go_sem, *];rfl) rfl ?_;exact⟨FIN.out.1,_,_,rfl,FIN.out.2.1,FIN.out.2.2⟩
end Go.Proofs.YtjonkbdldebkiaaGreatDoor
