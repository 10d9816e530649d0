/- Contract of the token reader's method try: a step, or nothing where something has no end. Condition: a text of at most 500000 bytes. -/
import Derived.Test.YtjonkbdldebkiaaGreatDoorVMkTok6
import Derived.Defers
import Derived.Recover
import Derived.Laws.Pointers
set_option linter.unusedVariables false
set_option linter.unusedSimpArgs false
set_option maxHeartbeats 2000000
set_option maxRecDepth 100000
namespace Go.Proofs.YtjonkbdldebkiaaGreatDoor
open Go.Proofs.Tryz Go.RowKit
def z88 (B R:Nat) (s:ByteArray) (k:Nat) (tx:List UInt8) (ts:List Mk.Tok) (w':World):Prop :=
 if Mg.pre [60] (s.data.toList.drop k)=true then
  match Mk.hereAt (s.data.toList.drop k) with
  | .text=>RdS w' B R s (k + 1) (tx++[60]) ts
  | .stop=>False
  | .gone r=>∃ j,j≤s.size∧k < j∧r=s.data.toList.drop j∧RdS w' B R s j tx ts
  | .tag t r=>∃ j,j≤s.size∧k < j∧r=s.data.toList.drop j∧RdS w' B R s j [] (Mk.flush tx ts++[t])
 else RdS w' B R s (k + ((s.data.toList.drop k).takeWhile (fun c=>c != 60)).length) (tx++(s.data.toList.drop k).takeWhile (fun c=>c != 60)) ts
def q98 (B R:Nat) (s:ByteArray) (k:Nat) (tx:List UInt8) (ts:List Mk.Tok) (w':World):Prop :=
 Mg.pre [60] (s.data.toList.drop k)=true∧Mk.hereAt (s.data.toList.drop k)=.stop∧∃ j,RdS w' B R s j tx ts
theorem j3g {e:Ending} {B R:Nat} {s:ByteArray} {k:Nat} {tx:List UInt8} {ts:List Mk.Tok} {w':World} (h:z00 e B R s k tx ts w') :
  (e=Gave∧q98 B R s k tx ts w')∨(e=.returned (.tuple #[])∧z88 B R s k tx ts w'):=by
 unfold z00 at h;unfold z88 q98
 split at h
 ·rename_i hp
  rw[if_pos hp]
  cases hh:Mk.hereAt (s.data.toList.drop k) with
  | text=>rw[hh] at h;exact .inr ⟨h.1,h.2⟩
  | stop=>rw[hh] at h;exact .inl ⟨h.1,hp,rfl,h.2⟩
  | gone r=>rw[hh] at h;exact .inr ⟨h.1,h.2⟩
  | tag t r=>rw[hh] at h;exact .inr ⟨h.1,h.2⟩
 ·rename_i hp
  rw[if_neg hp];exact .inr h
theorem RdS.beside {w w':World} {B R:Nat} {s:ByteArray} {k:Nat} {tx:List UInt8} {ts:List Mk.Tok} (h:RdS w B R s k tx ts) {O:Nat} {cs:Array Value} (hO:Blk w O 4 cs) (ha:Ap (fun b=>b=O) w w'):RdS w' B R s k tx ts:=by
 obtain⟨ov,xs,h⟩:=h;refine⟨ov,xs,h.frame fun b hb hq=>ha.block b hb ?_⟩;intro e;have e:b=O:=e;subst e
 rcases hq with e | e | e
 ·subst e;exact z2j hO h.rd (by decide) rfl
 ·rcases h.own.2 with ⟨hv,_⟩ | ⟨g,cap,cur,hv,_,hh,_⟩
  ·rw[hv] at e;cases e
  ·rw[hv] at e
   injection e with e;exact z2j hO hh (by decide) e.symm
 ·obtain⟨_,cs',f',e⟩:=e
  exact z2j hO e (by decide) rfl
theorem z88.beside {w w':World} {B R:Nat} {s:ByteArray} {k:Nat} {tx:List UInt8} {ts:List Mk.Tok} (h:z88 B R s k tx ts w) {O:Nat} {cs:Array Value} (hO:Blk w O 4 cs) (ha:Ap (fun b=>b=O) w w'):z88 B R s k tx ts w':=by
 unfold z88 at h ⊢
 split at h
 ·rename_i hp
  rw[if_pos hp]
  cases hh:Mk.hereAt (s.data.toList.drop k) with
  | text=>rw[hh] at h;exact h.beside hO ha
  | stop=>rw[hh] at h;exact h.elim
  | gone r=>rw[hh] at h;obtain⟨j,h1,h2,h3,h4⟩:=h;exact⟨j,h1,h2,h3,h4.beside hO ha⟩
  | tag t r=>rw[hh] at h;obtain⟨j,h1,h2,h3,h4⟩:=h;exact⟨j,h1,h2,h3,h4.beside hO ha⟩
 ·rename_i hp
  rw[if_neg hp];exact h.beside hO ha
theorem catch_panicking (O:Nat) (w:World) (hO:Blk w O 4 #[.bool false]) (older:List PanicEntry) :
  CallsD prog 185 #[.pointer (some ⟨O,0,none⟩)] (.panicking ({ v:=j6k,recovered:=false } :: older)) w fun e u' w' =>
   e=.returned (.tuple #[])∧u'=.panicking ({ v:=j6k,recovered:=true } :: older)∧Blk w' O 4 #[.bool false]∧Ap (fun b=>b=O) w w':=by
 have c0:w.cell? ⟨O,0,none⟩=some (.bool false):=Blk.cell hO 0;have f0:=Blk.frozen hO 0;have hOa:Blk (w.alloc (.cells #[] 234)) O 4 #[.bool false]:=Blk.alloc hO _;have c1:(w.alloc (.cells #[] 234)).cell? ⟨O,0,none⟩=some (.bool false):=Blk.cell hOa 0;have f1:=Blk.frozen hOa 0;have hta:∀ W:World,(Instr.typeAssert (.iface 234 (.agg #[])) 20 234 true).run prog W=.ok (.tuple #[.agg #[],.bool true]) W:=fun _=>by kernel_rfl
 refine callsD_of_wpS func185 rfl fun c₀ cs hu=>?_
 apply wpS_seq
 apply wpS_region
 simp[wpOpsS,go_sem,recoverD,hu,j6k,ntmps185,Exit.thenS];refine wpS_of_wp ?_;change Code.wp _ _ _ { tmps:=#[.pointer (some ⟨O,0,none⟩),.iface 234 (.agg #[]),undef,undef,.iface 234 (.agg #[]),undef,undef,undef,undef,undef,undef,undef,undef,undef,undef],defers:=[] } w;go_wp2_with fail
 cases c₀
 simp only [bodyPostS,j6k];refine⟨trivial,_,rfl,_,by simp[results,results185],rfl,rfl,Blk.set_ hOa 0 _,((Ap.refl (fun b=>b=O) w).alloc _).setCell (p:=⟨O,0,none⟩) rfl _⟩
theorem catch_idle (O:Nat) (w:World) :
  CallsD prog 185 #[.pointer (some ⟨O,0,none⟩)] .returning w fun e u' w'=>e=.returned (.tuple #[])∧u'=.returning∧w'=w:=by
 refine callsD_of_wpS func185 rfl fun c₀ cs hu=>?_
 apply wpS_seq
 apply wpS_region
 simp[wpOpsS,go_sem,recoverD,hu,ntmps185,Exit.thenS];refine wpS_of_wp ?_;change Code.wp _ _ _ { tmps:=#[.pointer (some ⟨O,0,none⟩),.nilIface,undef,undef,.nilIface,undef,undef,undef,undef,undef,undef,undef,undef,undef,undef],defers:=[] } w;go_wp2_with fail
 cases c₀
 simp_all [bodyPostS,results,results185]

theorem rd_try {w:World} {B R:Nat} {s:ByteArray} {k:Nat} {tx:List UInt8} {ts:List Mk.Tok} (hg:Gl w) (h:RdS w B R s k tx ts) (hk:k < s.size) (hs:s.size≤1048576) (htx:tx.length≤1048576) (hts:ts.length≤1048576) :
  Calls prog 126 #[.pointer (some ⟨R,0,none⟩)] w fun e w' =>
   ((e=.returned (.bool false)∧q98 B R s k tx ts w')∨(e=.returned (.bool true)∧z88 B R s k tx ts w'))∧Below B w w':=by
 have hmf:∀ (fn:Fn) (first cap:Array Value) (w:World),(Instr.makeFunc fn first cap).run prog w=.ok (.func fn first cap) w:=fun _ _ _ _=>rfl
 have H:=Ld h;have hbl:B≤w.heap.size:=by obtain⟨_,_,h⟩:=h;exact h.blt
 clear h;have hb1:=(Below.refl _ w).alloc (Lr) (.cells #[.bool false] 4);have O1:=Ld (Blk.new w 4 #[.bool false]);have H1:Hid (RdS (w.alloc (.cells #[.bool false] 4)) B R s k tx ts):=by
  obtain⟨ov,xs,h⟩:=H.out;exact⟨ov,xs,h.below hb1⟩
 have L1:=Ld (hb1.mono hbl);have hg1:=hg.below hb1 hg.lt;have HST:=Ld (rd_step hg1 H1.out hk hs htx hts);clear hg1
 go_enter_defers func126,ntmps126
 go_wp2_with fail;refine HST.out.mono ?_;rintro e w2 ⟨hres,hfr⟩;have O2:Hid (Blk w2 w.heap.size 4 #[.bool false]):=hfr.keeps _ _ _ O1.out;have L2:=Ld (L1.out.trans hfr.below)
 rcases j3g hres with ⟨rfl,hno⟩ | ⟨rfl,hok⟩
 ·have HNO:=Ld hno
  clear hres hfr hno HST H1 O1 L1 H hb1;go_wp2_with fail;refine leaves_cons (f:=185) (args:=#[.pointer (some ⟨w.heap.size,0,none⟩)]) (by simp) (by simp[go_sem]) ?_;refine(catch_panicking w.heap.size w2 O2.out []).mono ?_;rintro e u' w3 ⟨rfl,rfl,hb3,ha3⟩;have c3:w3.cell? ⟨w.heap.size,0,none⟩=some (.bool false):=Blk.cell hb3 0;have LF:Below B w w3:=L2.out.trans (Ap.below ha3 (Nat.le_trans hbl (by have:=L2.out.size;exact this)) (fun k hk e=>by have e:k=w.heap.size:=e;omega));have NO:q98 B R s k tx ts w3:=⟨HNO.out.1,HNO.out.2.1,by obtain⟨j,h⟩:=HNO.out.2.2;exact⟨j,h.beside O2.out ha3⟩⟩;have FIN:=Ld (And.intro NO LF);clear LF NO;simp[Leaves,settle,results,results126,go_sem,c3];exact FIN.out
 ·have HOK:=Ld hok
  have c2:w2.cell? ⟨w.heap.size,0,none⟩=some (.bool false):=Blk.cell O2.out 0;have f2:=Blk.frozen O2.out 0;clear hres hfr hok HST H1 O1 L1 H hb1;go_wp2_with fail;have aO:Ap (fun b=>b=w.heap.size) w2 (w2.setCell ⟨w.heap.size,0,none⟩ (.bool true)):=(Ap.refl (fun b=>b=w.heap.size) w2).setCell (p:=⟨w.heap.size,0,none⟩) rfl _;have OK3:=Ld (HOK.out.beside O2.out aO);have c3:(w2.setCell ⟨w.heap.size,0,none⟩ (.bool true)).cell? ⟨w.heap.size,0,none⟩=some (.bool true):=Blk.cell (Blk.set_ O2.out 0 (.bool true)) 0;have L3:=Ld (L2.out.setCell (p:=⟨w.heap.size,0,none⟩) hbl (.bool true));generalize w2.setCell ⟨w.heap.size,0,none⟩ (.bool true)=w3 at OK3 c3 L3 ⊢;refine leaves_cons (f:=185) (args:=#[.pointer (some ⟨w.heap.size,0,none⟩)]) (by simp) (by simp[go_sem]) ?_;refine(catch_idle w.heap.size w3).mono ?_;rintro e u' w4 ⟨rfl,rfl,rfl⟩;have FIN:=Ld (And.intro OK3.out L3.out);simp[Leaves,settle,results,results126,go_sem,c3];exact FIN.out
end Go.Proofs.YtjonkbdldebkiaaGreatDoor
