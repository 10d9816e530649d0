/- Contract of the token reader's method try: a step, or nothing where something has no end. Condition: a text of at most 500000 bytes. -/
import Derived.Test.YtagleefekmdldaaGreatDoorYMkTree9
import Derived.Defers
import Derived.Recover
import Derived.Laws.Pointers
import Derived.RegionTactic
import Derived.Test.YtagleefekmdldaaGreatDoorYMkTok5
set_option linter.unusedVariables false
set_option linter.unusedSimpArgs false
set_option maxHeartbeats 8000000
set_option maxRecDepth 100000
namespace Go.Proofs.YtagleefekmdldaaGreatDoor
open Go.Proofs.Tryz Go.RowKit
def z7k (B R:Nat) (s:ByteArray) (k:Nat) (tx:List UInt8) (ts:List Mk.Tok) (w':World):Prop :=
 if Mg.pre [60] (s.data.toList.drop k)=true then
  match Mk.hereAt (s.data.toList.drop k) with
  | .text=>RdS w' B R s (k + 1) (tx++[60]) ts
  | .stop=>False
  | .gone r=>∃ j,j≤s.size∧k < j∧r=s.data.toList.drop j∧RdS w' B R s j tx ts
  | .tag t r=>∃ j,j≤s.size∧k < j∧r=s.data.toList.drop j∧RdS w' B R s j [] (Mk.flush tx ts++[t])
 else RdS w' B R s (k + ((s.data.toList.drop k).takeWhile (fun c=>c != 60)).length) (tx++(s.data.toList.drop k).takeWhile (fun c=>c != 60)) ts
def q8z (B R:Nat) (s:ByteArray) (k:Nat) (tx:List UInt8) (ts:List Mk.Tok) (w':World):Prop :=
 Mg.pre [60] (s.data.toList.drop k)=true∧Mk.hereAt (s.data.toList.drop k)=.stop∧∃ j,RdS w' B R s j tx ts
theorem j2r {e:Ending} {B R:Nat} {s:ByteArray} {k:Nat} {tx:List UInt8} {ts:List Mk.Tok} {w':World} (h:Y8 e B R s k tx ts w') :
  (e=Gave∧q8z B R s k tx ts w')∨(e=.returned (.tuple #[])∧z7k B R s k tx ts w'):=by
 unfold Y8 at h;unfold z7k q8z
 split at h
 ·rename_i hp
  rw[if_pos hp]
  cases hh:Mk.hereAt (s.data.toList.drop k) with
  | text=>rw[hh] at h;exact .inr ⟨h.1,h.2⟩
  | stop=>rw[hh] at h;exact .inl ⟨h.1,hp,rfl,h.2⟩
  | gone r=>rw[hh] at h;exact .inr ⟨h.1,h.2⟩
  | tag t r=>rw[hh] at h;exact .inr ⟨h.1,h.2⟩
 ·rename_i hp
  rw[if_neg hp];exact .inr h
theorem RdS.beside {w w':World} {B R:Nat} {s:ByteArray} {k:Nat} {tx:List UInt8} {ts:List Mk.Tok} (h:RdS w B R s k tx ts) {O:Nat} {cs:Array Value} (hO:Blk w O 4 cs) (ha:Ap (fun b=>b=O) w w'):RdS w' B R s k tx ts:=by
 obtain⟨ov,xs,h⟩:=h;refine⟨ov,xs,h.frame fun b hb hq=>ha.block b hb ?_⟩;intro e;have e:b=O:=e;subst e
 rcases hq with e | e | e
 ·subst e;exact z1z hO h.rd (by decide) rfl
 ·rcases h.own.2 with ⟨hv,_⟩ | ⟨g,cap,cur,hv,_,hh,_⟩
  ·rw[hv] at e;cases e
  ·rw[hv] at e
   injection e with e;exact z1z hO hh (by decide) e.symm
 ·obtain⟨_,cs',f',e⟩:=e
  exact z1z hO e (by decide) rfl
theorem z7k.beside {w w':World} {B R:Nat} {s:ByteArray} {k:Nat} {tx:List UInt8} {ts:List Mk.Tok} (h:z7k B R s k tx ts w) {O:Nat} {cs:Array Value} (hO:Blk w O 4 cs) (ha:Ap (fun b=>b=O) w w'):z7k B R s k tx ts w':=by
 unfold z7k at h ⊢
 split at h
 ·rename_i hp
  rw[if_pos hp]
  cases hh:Mk.hereAt (s.data.toList.drop k) with
  | text=>rw[hh] at h;exact h.beside hO ha
  | stop=>rw[hh] at h;exact h.elim
  | gone r=>rw[hh] at h;obtain⟨j,h1,h2,h3,h4⟩:=h;exact⟨j,h1,h2,h3,h4.beside hO ha⟩
  | tag t r=>rw[hh] at h;obtain⟨j,h1,h2,h3,h4⟩:=h;exact⟨j,h1,h2,h3,h4.beside hO ha⟩
 ·rename_i hp
  rw[if_neg hp];exact h.beside hO ha
theorem catch_panicking (O:Nat) (w:World) (hO:Blk w O 4 #[.bool false]) (older:List PanicEntry) :
  CallsD prog 86 #[.pointer (some ⟨O,0,none⟩)] (.panicking ({ v:=j5n,recovered:=false } :: older)) w fun e u' w' =>
   e=.returned (.tuple #[])∧u'=.panicking ({ v:=j5n,recovered:=true } :: older)∧Blk w' O 4 #[.bool false]∧Ap (fun b=>b=O) w w':=by
 have c0:w.cell? ⟨O,0,none⟩=some (.bool false):=Blk.cell hO 0;have f0:=Blk.frozen hO 0;have hOa:Blk (w.alloc (.cells #[] 127)) O 4 #[.bool false]:=Blk.alloc hO _;have c1:(w.alloc (.cells #[] 127)).cell? ⟨O,0,none⟩=some (.bool false):=Blk.cell hOa 0;have f1:=Blk.frozen hOa 0;have hta:∀ W:World,(Instr.typeAssert (.iface 127 (.agg #[])) 20 127 true).run prog W=.ok (.tuple #[.agg #[],.bool true]) W:=fun _=>by kernel_rfl
 refine callsD_of_wpS func86 rfl fun c₀ cs hu=>?_
 apply wpS_seq
 apply wpS_region
 simp[wpOpsS,go_sem,recoverD,hu,j5n,ntmps86,Exit.thenS];refine wpS_of_wp ?_;change Code.wp _ _ _ { tmps:=#[.pointer (some ⟨O,0,none⟩),.iface 127 (.agg #[]),undef,undef,.iface 127 (.agg #[]),undef,undef,undef,undef,undef,undef,undef,undef,undef,undef],defers:=[] } w;go_wp2_with fail
 cases c₀
 simp only [bodyPostS,j5n];refine⟨trivial,_,rfl,_,by simp[results,results86],rfl,rfl,Blk.set_ hOa 0 _,((Ap.refl (fun b=>b=O) w).alloc _).setCell (p:=⟨O,0,none⟩) rfl _⟩
theorem catch_idle (O:Nat) (w:World) :
  CallsD prog 86 #[.pointer (some ⟨O,0,none⟩)] .returning w fun e u' w'=>e=.returned (.tuple #[])∧u'=.returning∧w'=w:=by
 refine callsD_of_wpS func86 rfl fun c₀ cs hu=>?_
 apply wpS_seq
 apply wpS_region
 simp[wpOpsS,go_sem,recoverD,hu,ntmps86,Exit.thenS];refine wpS_of_wp ?_;change Code.wp _ _ _ { tmps:=#[.pointer (some ⟨O,0,none⟩),.nilIface,undef,undef,.nilIface,undef,undef,undef,undef,undef,undef,undef,undef,undef,undef],defers:=[] } w;go_wp2_with fail
 cases c₀
 simp_all [bodyPostS,results,results86]

theorem rd_try {w:World} {B R:Nat} {s:ByteArray} {k:Nat} {tx:List UInt8} {ts:List Mk.Tok} (hg:Gl w) (h:RdS w B R s k tx ts) (hk:k < s.size) (hs:s.size≤1048576) (htx:tx.length≤1048576) (hts:ts.length≤1048576) :
  Calls prog 55 #[.pointer (some ⟨R,0,none⟩)] w fun e w' =>
   ((e=.returned (.bool false)∧q8z B R s k tx ts w')∨(e=.returned (.bool true)∧z7k B R s k tx ts w'))∧Below B w w':=by
 have hmf:∀ (fn:Fn) (first cap:Array Value) (w:World),(Instr.makeFunc fn first cap).run prog w=.ok (.func fn first cap) w:=fun _ _ _ _=>rfl
 have H:=Ld h;have hbl:B≤w.heap.size:=by obtain⟨_,_,h⟩:=h;exact h.blt
 clear h;have hb1:=(Below.refl _ w).alloc (Lr) (.cells #[.bool false] 4);have O1:=Ld (Blk.new w 4 #[.bool false]);have H1:Hid (RdS (w.alloc (.cells #[.bool false] 4)) B R s k tx ts):=by
  obtain⟨ov,xs,h⟩:=H.out;exact⟨ov,xs,h.below hb1⟩
 have L1:=Ld (hb1.mono hbl);have hg1:=hg.below hb1 hg.lt;have HST:=Ld (rd_step hg1 H1.out hk hs htx hts);clear hg1
 go_enter_defers func55,ntmps55
 go_wp2_with fail;refine HST.out.mono ?_;rintro e w2 ⟨hres,hfr⟩;have O2:Hid (Blk w2 w.heap.size 4 #[.bool false]):=hfr.keeps _ _ _ O1.out;have L2:=Ld (L1.out.trans hfr.below)
 rcases j2r hres with ⟨rfl,hno⟩ | ⟨rfl,hok⟩
 ·have HNO:=Ld hno
  clear hres hfr hno HST H1 O1 L1 H hb1;go_wp2_with fail;refine leaves_cons (f:=86) (args:=#[.pointer (some ⟨w.heap.size,0,none⟩)]) (by simp) (by simp[go_sem]) ?_;refine(catch_panicking w.heap.size w2 O2.out []).mono ?_;rintro e u' w3 ⟨rfl,rfl,hb3,ha3⟩;have c3:w3.cell? ⟨w.heap.size,0,none⟩=some (.bool false):=Blk.cell hb3 0;have LF:Below B w w3:=L2.out.trans (Ap.below ha3 (Nat.le_trans hbl (by have:=L2.out.size;exact this)) (fun k hk e=>by have e:k=w.heap.size:=e;omega));have NO:q8z B R s k tx ts w3:=⟨HNO.out.1,HNO.out.2.1,by obtain⟨j,h⟩:=HNO.out.2.2;exact⟨j,h.beside O2.out ha3⟩⟩;have FIN:=Ld (And.intro NO LF);clear LF NO;simp[Leaves,settle,results,results55,go_sem,c3];exact FIN.out
 ·have HOK:=Ld hok
  have c2:w2.cell? ⟨w.heap.size,0,none⟩=some (.bool false):=Blk.cell O2.out 0;have f2:=Blk.frozen O2.out 0;clear hres hfr hok HST H1 O1 L1 H hb1;go_wp2_with fail;have aO:Ap (fun b=>b=w.heap.size) w2 (w2.setCell ⟨w.heap.size,0,none⟩ (.bool true)):=(Ap.refl (fun b=>b=w.heap.size) w2).setCell (p:=⟨w.heap.size,0,none⟩) rfl _;have OK3:=Ld (HOK.out.beside O2.out aO);have c3:(w2.setCell ⟨w.heap.size,0,none⟩ (.bool true)).cell? ⟨w.heap.size,0,none⟩=some (.bool true):=Blk.cell (Blk.set_ O2.out 0 (.bool true)) 0;have L3:=Ld (L2.out.setCell (p:=⟨w.heap.size,0,none⟩) hbl (.bool true));generalize w2.setCell ⟨w.heap.size,0,none⟩ (.bool true)=w3 at OK3 c3 L3 ⊢;refine leaves_cons (f:=86) (args:=#[.pointer (some ⟨w.heap.size,0,none⟩)]) (by simp) (by simp[go_sem]) ?_;refine(catch_idle w.heap.size w3).mono ?_;rintro e u' w4 ⟨rfl,rfl,rfl⟩;have FIN:=Ld (And.intro OK3.out L3.out);simp[Leaves,settle,results,results55,go_sem,c3];exact FIN.out
end Go.Proofs.YtagleefekmdldaaGreatDoor
namespace Mk
theorem q0p {p l u:Bs} (hp:p ≠ []) (h:behind p l=some u):u.length < l.length:=by
 rw[q0o p hp] at h
 split at h
 ·cases h
 ·rename_i h1
  injection h with h;have hge:=Go.Lib.index_ge l p;have h2:=Go.Lib.index_room l p (by omega);have h3:=List.length_pos_iff.2 hp;rw[← h,List.length_drop];omega
theorem q5f:∀ (n:Nat) (r:Bs) (out l:List At) (u:Bs),z01 n r out=some (l,u)→u.length < r.length:=by
 intro n
 induction n with
 | zero=>intro r out l u h;cases h
 | succ n ih =>
  intro r out l u h;rw[z4o] at h;have h0:=dropWhile_le sepB r
  cases hd:r.dropWhile sepB with
  | nil=>rw[hd] at h;cases h
  | cons c t =>
   rw[hd] at h;rw[hd,List.length_cons] at h0;simp only at h
   split at h
   ·injection h with h;injection h with h1 h2;subst h2;omega
   ·cases hr:z1q ((t.dropWhile Y6).dropWhile white) with
    | none=>rw[hr] at h;cases h
    | some x =>
     obtain⟨v,r4⟩:=x;rw[hr] at h;have h1:=q1s hr;have h2:=dropWhile_le white (t.dropWhile Y6);have h3:=dropWhile_le Y6 t;have h4:=ih _ _ _ _ h;omega
theorem q1f {c:UInt8} {t u:Bs} (h:hereAt (c :: t)=.gone u):u.length≤t.length:=by
 unfold hereAt at h;have ho:∀ r:Bs,r.length≤t.length→z2i r=.gone u→u.length≤t.length:=by
  intro r hr h;unfold z2i at h;have h0:=dropWhile_le Q7 r;simp only at h
  split at h
  ·cases h
  ·rename_i l rest ha
   split at h
   ·cases h
   ·injection h with h;subst h
    have:=q5f _ _ _ _ _ ha;omega
 have hc:∀ r:Bs,r.length≤t.length→z0y r=.gone u→u.length≤t.length:=by
  intro r hr h;unfold z0y at h;have h0:=dropWhile_le Q7 r;simp only at h
  split at h
  ·cases h
  ·rename_i rest ha
   split at h
   ·cases h
   ·injection h with h;subst h
    have:=q0p (by decide) ha;omega
 have hp:∀ (p r:Bs),p ≠ []→r.length≤t.length + 1→z0l p r=.gone u→u.length≤t.length:=by
  intro p r hp hr h;unfold z0l at h
  split at h
  ·cases h
  ·rename_i rest ha
   injection h with h;subst h;have:=q0p hp ha;omega
 split at h
 ·exact ho _ (Lr) h
 split at h
 ·exact hc _ (by rw[List.length_drop,List.length_cons];omega) h
 split at h
 ·exact hp _ _ (by decide) (by rw[List.length_drop,List.length_cons];omega) h
 split at h
 ·exact hp _ _ (by decide) (by rw[List.length_cons];omega) h
 ·cases h
theorem q4b {c:UInt8} {t u:Bs} {k:Tok} (h:hereAt (c :: t)=.tag k u):u.length≤t.length:=by
 unfold hereAt at h;have ho:∀ r:Bs,r.length≤t.length→z2i r=.tag k u→u.length≤t.length:=by
  intro r hr h;unfold z2i at h;have h0:=dropWhile_le Q7 r;simp only at h
  split at h
  ·cases h
  ·rename_i l rest ha
   split at h
   ·injection h with h h';subst h'
    have:=q5f _ _ _ _ _ ha;omega
   ·cases h
 have hc:∀ r:Bs,r.length≤t.length→z0y r=.tag k u→u.length≤t.length:=by
  intro r hr h;unfold z0y at h;have h0:=dropWhile_le Q7 r;simp only at h
  split at h
  ·cases h
  ·rename_i rest ha
   split at h
   ·injection h with h h';subst h'
    have:=q0p (by decide) ha;omega
   ·cases h
 have hp:∀ (p r:Bs),z0l p r ≠ .tag k u:=by
  intro p r h;unfold z0l at h
  split at h <;> cases h
 split at h
 ·exact ho _ (Lr) h
 split at h
 ·exact hc _ (by rw[List.length_drop,List.length_cons];omega) h
 split at h
 ·exact absurd h (hp _ _)
 split at h
 ·exact absurd h (hp _ _)
 ·cases h
theorem q3n:∀ (n m:Nat) (r text:Bs) (out:List Tok),r.length≤n→r.length≤m→z0a n r text out=z0a m r text out:=by
 intro n
 induction n with
 | zero =>
  intro m r text out h _;have:r=[]:=List.eq_nil_of_length_eq_zero (by omega);subst this
  cases m <;> rfl
 | succ n ih =>
  intro m r text out h hm
  cases r with
  | nil=>cases m <;> rfl
  | cons c t =>
   rw[List.length_cons] at h hm
   cases m with
   | zero=>omega
   | succ m =>
    simp only [z0a]
    split
    ·cases hh:hereAt (c :: t) with
     | text=>exact ih m t _ _ (by omega) (by omega)
     | stop=>rfl
     | gone u=>have:=q1f hh;exact ih m u _ _ (by omega) (by omega)
     | tag k u=>have:=q4b hh;exact ih m u _ _ (by omega) (by omega)
    ·exact ih m t _ _ (by omega) (by omega)
def z5h (r text:Bs) (out:List Tok):List Tok:=z0a r.length r text out
theorem q6x (text:Bs) (out:List Tok):z5h [] text out=flush text out:=rfl
theorem q1y (c:UInt8) (t text:Bs) (out:List Tok) (h:c ≠ 60):z5h (c :: t) text out=z5h t (text++[c]) out:=by
 show z0a (t.length + 1) (c :: t) text out=_;simp only [z0a];rw[if_neg h];rfl
theorem z92 (t text:Bs) (out:List Tok):z5h (60 :: t) text out=(match hereAt (60 :: t) with
  | .text=>z5h t (text++[60]) out
  | .stop=>flush (text++60 :: t) out
  | .gone u=>z5h u text out
  | .tag k u=>z5h u [] (flush text out++[k])):=by
 show z0a (t.length + 1) (60 :: t) text out=_;simp only [z0a];rw[if_pos trivial]
 cases hh:hereAt (60 :: t) with
 | text=>rfl
 | stop=>rfl
 | gone u=>exact q3n _ _ u _ _ (q1f hh) (Lr)
 | tag k u=>exact q3n _ _ u _ _ (q4b hh) (Lr)
theorem q6y:∀ (r text:Bs) (out:List Tok),z5h r text out=z5h (r.dropWhile (fun c=>c != 60)) (text++r.takeWhile (fun c=>c != 60)) out
 | [],text,out=>by simp
 | c :: t,text,out=>by
  by_cases h:c=60
  ·subst h
   simp
  ·have hb:(c != 60)=true:=bne_iff_ne.2 h
   rw[q1y c t text out h,List.dropWhile_cons,List.takeWhile_cons,hb];simp only [if_true];rw[q6y t (text++[c]) out];simp
theorem j5s (r:Bs):Mg.pre [60] r=z4b (fun c=>c == 60) r:=by
 cases r with
 | nil=>rfl
 | cons c t=>simp[Mg.pre,z4b]
end Mk
namespace Go.Proofs.YtagleefekmdldaaGreatDoor
open Go.Proofs.Tryz Go.RowKit
theorem RdO.toks {w:World} {B R:Nat} {s:ByteArray} {k:Nat} {tx:List UInt8} {ts:List Mk.Tok} {ov:Value} {xs:List Value} (h:RdO w B R s k tx ts ov xs) (hl:ts.length≤maxLen):z1b w (fun b=>B≤b∧b < w.heap.size) ov ts:=by
 obtain⟨ao,cap,h1,h2,h3⟩:=z1v.of_own (K:=fun b=>B≤b∧b < w.heap.size) h.own (fun g hg=>h.own.lt g hg);exact⟨ao,cap,xs,h1,h2,h.cells.frame (fun b hb=>⟨⟨hb.1,hb.lt⟩,rfl⟩),h3.2⟩

theorem step_next {w:World} {B R:Nat} {s:ByteArray} {k:Nat} {tx:List UInt8} {ts:List Mk.Tok} (h:z7k B R s k tx ts w) (hk:k < s.size) (htx:tx.length≤k) (hts:ts.length≤2 * k) :
  ∃ k' tx' ts',k < k'∧k'≤s.size∧tx'.length≤k'∧ts'.length≤2 * k'∧Mk.z5h (s.data.toList.drop k) tx ts=Mk.z5h (s.data.toList.drop k') tx' ts'∧RdS w B R s k' tx' ts':=by
 unfold z7k at h
 split at h
 ·rename_i hp
  have hc:s[k]=60:=by
   rw[Mk.j5s,X6 s k hk] at hp;have hp:(s[k] == 60)=true:=hp;exact beq_iff_eq.1 hp
  have hd:s.data.toList.drop k=60 :: s.data.toList.drop (k + 1):=by rw[X6 s k hk,hc]
  have he:=Mk.z92 (s.data.toList.drop (k + 1)) tx ts;rw[← hd] at he
  cases hh:Mk.hereAt (s.data.toList.drop k) with
  | text =>
   rw[hh] at h he;exact⟨k + 1,_,_,by omega,by omega,by rw[List.length_append,List.length_singleton];omega,by omega,he,h⟩
  | stop=>rw[hh] at h;exact h.elim
  | gone r =>
   rw[hh] at h he;obtain⟨j,h1,h2,h3,h4⟩:=h;exact⟨j,_,_,h2,h1,by omega,by omega,by rw[he,h3],h4⟩
  | tag t r =>
   rw[hh] at h he;obtain⟨j,h1,h2,h3,h4⟩:=h;have:=z4a tx ts;exact⟨j,_,_,h2,h1,Nat.zero_le _,by rw[List.length_append,List.length_singleton];omega,by rw[he,h3],h4⟩
 ·rename_i hp
  have hne:s[k] ≠ 60:=by
   intro e
   apply hp
   rw[Mk.j5s,X6 s k hk];exact beq_iff_eq.2 e
  have h1:0 < ((s.data.toList.drop k).takeWhile (fun c=>c != 60)).length:=by
   rw[X6 s k hk,List.takeWhile_cons,show (s[k] != 60)=true from bne_iff_ne.2 hne];simp
  have h2:=z5n s k (by omega) (fun c=>c != 60);exact⟨_,_,_,by omega,h2,by rw[List.length_append];omega,by omega,by rw[Mk.q6y,← adv s k],h⟩

theorem mk_All (s:ByteArray) (w:World) (hg:Gl w) (hs:s.size≤300000) :
  Calls prog 39 #[.string s] w fun e w'=>∃ v,e=.returned v∧z1b w' (fun b=>w.heap.size≤b∧b < w'.heap.size) v (Mk.toks s.data.toList)∧Below w.heap.size w w':=by
 have hlt:=hg.lt;have hb0:=(Below.refl _ w).alloc (Lr) (.cells #[.string s,.int .i64 0,.string ⟨#[]⟩,.slice none 0 0] 88);have RD0:Hid (RdS (w.alloc (.cells #[.string s,.int .i64 0,.string ⟨#[]⟩,.slice none 0 0] 88)) w.heap.size w.heap.size s 0 [] []) :=
  ⟨.slice none 0 0,[],⟨hlt,Lr,Blk.new w _ _,World.ownsRow_nil _ _ _ _,rfl,by simp[Value.ownBlock]⟩⟩
 have L0:=Ld hb0;clear hb0;go_enter func39,ntmps39
 go_upto_block 0 with fail
 generalize w.alloc (.cells #[.string s,.int .i64 0,.string ⟨#[]⟩,.slice none 0 0] 88)=w0 at RD0 L0 ⊢
 go_cut [] (fun wx=>∃ k tx ts,tx.length≤600000∧ts.length≤600000∧Hid (Mk.toks s.data.toList=Mk.flush tx ts)∧Hid (RdS wx w.heap.size w.heap.size s k tx ts)∧Hid (Below w.heap.size w wx))
 case first =>
  go_wp2_with fail
  go_loopw [14] (fun _ wr=>∃ k tx ts,k≤s.size∧tx.length≤k∧ts.length≤2 * k∧Hid (Mk.toks s.data.toList=Mk.z5h (s.data.toList.drop k) tx ts)∧Hid (RdS wr w.heap.size w.heap.size s k tx ts)∧Hid (Below w.heap.size w wr)) (fun _ wr=>s.size - atOf wr w.heap.size)
  case atStart=>exact⟨0,[],[],Nat.zero_le _,Lr,Nat.zero_le _,rfl,RD0.out,L0.out⟩
  case round =>
   obtain⟨k,tx,ts,hk,htx,hts,HA,RD,BL⟩:=hrel;have hrd:∃ ov,Rd wr w.heap.size s k tx ov:=by obtain⟨ov,xs,h⟩:=RD.out;exact⟨ov,h.rd⟩
   obtain⟨ov,hrd⟩:=hrd;have c1:=hrd.c1;have HAT:=Ld hrd.atOf;clear hrd
   by_cases hks:k < s.size
   ·have hg1:=hg.below BL.out hlt
    have HT:=Ld (rd_try hg1 RD.out hks (by omega) (by omega) (by omega));clear hg1;go_wp2_with fail;refine HT.out.mono ?_;rintro e w1 ⟨⟨rfl,hno⟩ | ⟨rfl,hok⟩,hb1⟩
    ·have BL1:=Ld (BL.out.trans hb1)
     obtain⟨hp,hh,j,hrs⟩:=hno;have hc:s[k]=60:=by
      rw[Mk.j5s,X6 s k hks] at hp;have hp:(s[k] == 60)=true:=hp;exact beq_iff_eq.1 hp
     have hd:s.data.toList.drop k=60 :: s.data.toList.drop (k + 1):=by rw[X6 s k hks,hc]
     have HF:Hid (Mk.toks s.data.toList=Mk.flush (tx++s.data.toList.drop k) ts):=by
      show _=_;rw[HA.out,hd,Mk.z92,← hd,hh]
     obtain⟨ov1,xs1,ho⟩:=hrs;have HO:=Ld ho;have c2:=ho.rd.c2;have f2:=ho.rd.fz 2;have hdl:(s.data.toList.drop k).length≤300000:=by rw[List.length_drop,bs_len];omega
     have hex:s.extract k s.size=st (s.data.toList.drop k):=by rw[Z4,List.take_of_length_le (by rw[List.length_drop,bs_len];omega)]
     have HEX:=Ld hex;have q1:¬ 9223372036854775807 < (st tx).size + (s.size - k):=by rw[y9];omega
     have hki:(k:Int)≤s.size:=by omega
     clear HT hb1 hp hh hc hd ho hex c1 HA RD BL;go_wp2_with fail
     go_region
     all_goals
      rw[HEX.out,show st tx++st (s.data.toList.drop k)=st (tx++s.data.toList.drop k) from z19 (st tx) (st (s.data.toList.drop k))];have HO2:=Ld (HO.out.setText (tx++s.data.toList.drop k));have BL2:=Ld (BL1.out.setCell (p:=⟨w.heap.size,2,none⟩) (Lr) (.string (st (tx++s.data.toList.drop k))));go_wp2_with fail;go_meet
      case rel=>exact⟨j,_,ts,by rw[List.length_append];omega,by omega,HF,⟨_,_,HO2.out.below ((Below.refl _ _).drew)⟩,BL2.out.drew⟩
    ·obtain⟨k',tx',ts',h1,h2,h3,h4,h5,h6⟩:=step_next hok hks htx hts
     have HA1:Hid (Mk.toks s.data.toList=Mk.z5h (s.data.toList.drop k') tx' ts'):=by show _=_;rw[HA.out,h5]
     have RD1:=Ld h6;have BL1:=Ld (BL.out.trans hb1);have hat:atOf w1 w.heap.size=k':=by obtain⟨_,_,h⟩:=h6;exact h.rd.atOf
     have HAT1:=Ld hat
     clear HT hb1 hok h5 h6 hat HA RD BL;go_wp2_with fail;go_roundw
     case rel=>exact⟨k',tx',ts',h2,h3,h4,HA1,RD1,BL1⟩
     case measure=>rw[HAT.out,HAT1.out];omega
   ·have hke:k=s.size:=by omega
    have HF:Hid (Mk.toks s.data.toList=Mk.flush tx ts):=by
     show _=_;rw[HA.out,List.drop_of_length_le (by simp;omega)];rfl
    clear HA;go_wp2_with fail;go_meet
    case rel=>exact⟨k,tx,ts,by omega,by omega,HF,RD,BL⟩
 case rest =>
  obtain⟨k,tx,ts,htx,hts,HF,RD,BL⟩:=hcut;have hg1:=hg.below BL.out hlt;obtain⟨ov,xs,h⟩:=RD.out;have HFL:=Ld (q4o hg1 h (by omega) (by omega));clear hg1 h;go_wp2_with fail;refine HFL.out.mono ?_;rintro e w1 ⟨rfl,⟨ov1,xs1,h1⟩,hb1,_⟩;have c3:=h1.rd.c3;have hfl:=z4a tx ts;have hty:=h1.toks (by unfold maxLen;omega);rw[← HF.out] at hty;have HTY:=Ld hty;have BL1:=Ld (BL.out.trans hb1);clear HFL h1 hb1 hty;go_wp2_with fail;go_ret;exact⟨_,rfl,HTY.out,BL1.out⟩
theorem q91 (l:List Mk.At) (v:Value) (K:Nat→Prop) (w:World) (hv:AtsV w K v l) (hK:∀ b,K b→b < w.heap.size) (hl:l.length≤1099511627776) :
  Calls prog 59 #[v] w fun e w'=>∃ v',e=.returned v'∧w'.ownsRow w.heap.size 73 2 v' l.length (Z5 l)∧Below w.heap.size w w':=by
 obtain⟨ao,cap,rfl,hat,hcap,hml⟩:=hv;have hlen:=z04 l;have h1c:∀ u ∈ Z5 l,u.oneCell'=true:=by
  intro u hu;obtain⟨x,_,hx⟩:=List.mem_flatMap.1 hu;simp at hx
  rcases hx with rfl | rfl <;> rfl
 have q50:∀ (w:World) (a:Option Addr) (n c n' c':Nat),(binOp .eql 36 (.slice a n c) (.slice none n' c')).run prog w=.ok (.bool a.isNone) w:=fun w a n c n' c'=>Lib.run_eql_slice_nil w _ _ a n c n' c' underlying36
 have u50:∀ w,Sem.run prog (underlying 36) w=.ok (TypeDesc.slice 73) w:=run_underlying underlying36;obtain⟨i0,hi,hz0,hz1,hz2⟩:=info_parts Tryz.infoAttr
 cases ao with
 | none =>
  have hnil:Z5 l=[]:=by
   rcases hat with q | ⟨g,o,q,_⟩
   ·exact q
   ·cases q
  have hl0:l.length=0:=by rw[hnil] at hlen;simp at hlen;omega
  rw[hnil,hl0];clear hat hl hcap hml hnil hlen h1c hl0;go_enter func59,ntmps59;go_wp2;go_ret;exact⟨_,rfl,World.ownsRow_nil _ _ _ _,Below.refl _ _⟩
 | some a =>
  have hcs:∀ (j:Nat) (u:Value),(Z5 l)[j]? = some u→(w.alloc (.cells #[] 73)).cell? (a.add j)=some u:=by
   intro j u hj
   rcases hat with q | ⟨g,o,q,_,hc,_⟩
   ·rw[q] at hj;cases hj
   ·injection q with q
    subst q;rw[Addr.add_lit];exact Lib.cell?_alloc_some _ (hc j u hj)
  have HCS:=Ld hcs;have H1C:=Ld h1c;have HLN:=Ld hlen;clear hat hcs h1c hlen;go_enter func59,ntmps59;go_wp2_with (at_builtin;refine wpList_append_own _ rfl _ _ 36 rfl w.heap.size 73 i0 (.agg #[.string ⟨#[]⟩,.string ⟨#[]⟩]) 2 32 underlying36 hi hz0 hz1 hz2 rfl (by decide) _ _ _ rfl (World.ownsRow_made w #[] 0 (Lr) (Nat.zero_le _) rfl) a l.length cap (Z5 l) rfl HLN.out HCS.out H1C.out (by rw[Nat.zero_add];exact hml) (by omega) (by simp) ?_);intro v' w1 hown hgrow hnil;go_wp2;go_ret;refine⟨v',rfl,by simpa using hown,?_⟩;exact((Below.refl _ w).alloc (Lr) _).grown hgrow (by simp) (by intro k hk;simp[Value.ownBlock] at hk;omega)
theorem j1u (l:List (List UInt8)) (k:Nat) (h:k < l.length) (n:List UInt8) (hn:l[k]? = some n):z09 (l.take (k + 1))=z09 (l.take k)++[.string (st n)]:=by
 rw[List.take_add_one,hn];simp[z09]
theorem j02 {w:World} {B P:Nat} {K:Nat→Prop} (b:Mk.Bld) (h:BldS w B P K b) (hl:b.ops.length≤1048576) :
  Calls prog 91 #[.pointer (some ⟨P,0,none⟩)] w fun e w'=>∃ v',e=.returned v'∧w'.ownsRow w.heap.size 9 1 v' b.names.length (z09 b.names)∧Below w.heap.size w w':=by
 obtain⟨vn,vo,ns,xo,h⟩:=h;have hPl:=Blk.lt h.blk;obtain⟨aoo,capo,hvo⟩:=Y1 h.ro;subst hvo;have c1:w.cell? ⟨P,1,none⟩=some (.slice aoo b.ops.length capo):=Blk.cell h.blk 1;have hcells:∀ k n a,b.ops[k]? = some (n,a)→∃ go aoa capa,aoo=some ⟨go,0,none⟩∧go < w.heap.size∧w.cell? ⟨go,k * 4,none⟩=some (.string (st n))∧w.cell? ⟨go,k * 4 + 1,none⟩=some (.slice aoa a.length capa)∧w.cell? ⟨go,k * 4 + 2,none⟩=some (.string (st []))∧w.cell? ⟨go,k * 4 + 3,none⟩=some (.slice none 0 0):=by
  intro k n a hk;obtain⟨va,hva,x0,x1,x2,x3⟩:=h.oc.at_ k n a hk
  obtain⟨aoa,capa,hva1,_⟩:=hva;subst hva1
  rcases h.ro.2 with ⟨hv,hn⟩ | ⟨g,cap,cur,hv,hb,hh,hnc,hcm,hcs,ht⟩
  ·exfalso
   rw[List.getElem?_eq_none (by omega)] at hk;cases hk
  ·injection hv with e1 e2 e3
   subst e1;have hc:=h.ro.cells (g:=g) rfl;have e0:∀ j,(⟨g,0,none⟩:Addr).add j=⟨g,j,none⟩:=by intro j;unfold Addr.add;split <;> simp_all
   have y0:=hc _ _ x0;have y1:=hc _ _ x1;have y2:=hc _ _ x2;have y3:=hc _ _ x3;rw[e0] at y0 y1 y2 y3;exact⟨g,aoa,capa,rfl,(h.ro.lt g rfl).2,y0,y1,y2,y3⟩
 have hnm:=b.q6d;have hnl:b.names.length=b.ops.length:=by rw[hnm];simp
 have HC:=Ld hcells;clear h hcells;obtain⟨i0,hi,hz0,hz1,hz2⟩:=info_parts Tryz.infoStr;have HNM:=Ld hnm;have HNL:=Ld hnl;clear hnm hnl;go_enter func91,ntmps91;go_wp2_with fail
 go_loopw [3,11] (fun u i wr=>∃ k:Nat,k≤b.ops.length∧i=.int .i64 k∧Hid (wr.ownsRow w.heap.size 9 1 u k (z09 (b.names.take k)))∧Hid (Below w.heap.size w wr)) (fun _ i _=>b.ops.length - (intOf i).toNat)
 case atStart=>exact⟨0,Nat.zero_le _,rfl,World.ownsRow_nil _ _ _ _,Below.refl _ _⟩
 case round =>
  obtain⟨k,hk,rfl,OW,BL⟩:=hrel;have hsz:=BL.out.size
  by_cases hlt:k < b.ops.length
  ·obtain⟨⟨n,a⟩,hka⟩:∃ o,b.ops[k]? = some o:=⟨_,List.getElem?_eq_getElem hlt⟩
   obtain⟨go,aoa,capa,rfl,hgl,y0,y1,y2,y3⟩:=HC.out k n a hka;rw[← BL.out.cell (p:=⟨go,_,none⟩) hgl] at y0 y1 y2 y3;have HT:Hid (z09 (b.names.take (k + 1))=z09 (b.names.take k)++[.string (st n)]):=j1u _ k (by rw[HNL.out];exact hlt) n (by rw[HNM.out,List.getElem?_map,hka];rfl);obtain⟨ao1,cap1,hu⟩:=Y1 OW.out;subst hu;clear hka;have PB:=Ld (Blk.new wr 38 #[.string (st n),.slice aoa a.length capa,.string (st []),.slice none 0 0]);have hal:=(Below.refl wr.heap.size wr).alloc (Lr) (.cells #[.string (st n),.slice aoa a.length capa,.string (st []),.slice none 0 0] 38);have hb11:=hal.alloc hal.size (.cells #[.string (st n)] 9);have ow10:=X8 OW.out (((Ap.refl (fun _=>False) wr).alloc (.cells #[.string (st n),.slice aoa a.length capa,.string (st []),.slice none 0 0] 38)).alloc (.cells #[.string (st n)] 9)) (fun _ _ q=>q);have HNEW:Hid (∀ j u,[Value.string (st n)][j]? = some u→((wr.alloc (.cells #[.string (st n),.slice aoa a.length capa,.string (st []),.slice none 0 0] 38)).alloc (.cells #[.string (st n)] 9)).cell? ((⟨wr.heap.size + 1,0,none⟩:Addr).add j)=some u):=by
    have q:=cell_one_new (wr.alloc (.cells #[.string (st n),.slice aoa a.length capa,.string (st []),.slice none 0 0] 38)) (.string (st n)) 9;rw[World.size_alloc] at q;exact q
   go_wp2_with (at_builtin;refine Q9 rfl _ _ 105 rfl w.heap.size 9 i0 (.string ⟨#[]⟩) 1 16 underlying105 hi hz0 hz1 hz2 rfl (by decide) _ _ _ rfl ow10 ⟨wr.heap.size + 1,0,none⟩ 1 1 [.string (st n)] rfl rfl HNEW.out (one_cell _ rfl) (by decide) (by unfold maxLen;omega) (by omega) (by simp;omega) ?_);intro v' w2 hown' hgrow hfresh;have OW2:Hid (w2.ownsRow w.heap.size 9 1 v' (k + 1) (z09 (b.names.take (k + 1)))):=by show World.ownsRow _ _ _ _ _ _ _;rw[HT.out];exact hown'
   have BL2:Hid (Below w.heap.size w w2):=(BL.out.trans (hb11.mono hsz)).grown hgrow (by simp;omega) (fun q hq=>(OW.out.lt q hq).1);clear hown' hgrow hfresh ow10 hb11 hal y0 y1 y2 y3 PB BL OW HT;go_wp2_with fail;go_roundw
   case rel=>exact⟨k + 1,by omega,by go_num,OW2,BL2⟩
   case measure=>simp[intOf];omega
  ·have hke:k=b.ops.length:=by omega
   have HO:Hid (wr.ownsRow w.heap.size 9 1 u3 b.names.length (z09 b.names)):=by
    show World.ownsRow _ _ _ _ _ _ _;have q:=OW.out;rw[List.take_of_length_le (by rw[HNL.out];omega)] at q;rw[HNL.out,← hke];exact q
   clear hke OW;go_wp2_with fail;go_ret;exact⟨_,rfl,HO.out,BL.out⟩
end Go.Proofs.YtagleefekmdldaaGreatDoor
namespace Go.Proofs.YtagleefekmdldaaGreatDoor
open Go.RowKit
theorem j4u {w10 wF:World} {B g' cap' m:Nat} {e:TypeId} {xs:List Value} {z0 z1 z2 z3 u0 u1 u2 u3 uq:Value} {q:Addr} {N:Nat} (hx:xs.length=m * 4) (hown:w10.ownsRow B e 4 (.slice (some ⟨g',0,none⟩) N cap') N (xs++[z0,z1,z2,z3])) (hgg:q.block ≠ g')
  (hF:wF.heap=(((((w10.setCell ⟨g',m * 4,none⟩ u0).setCell ⟨g',m * 4 + 1,none⟩ u1).setCell ⟨g',m * 4 + 2,none⟩ u2).setCell ⟨g',m * 4 + 3,none⟩ u3).setCell q uq).heap∨wF.heap=(((((w10.setCell q uq).setCell ⟨g',m * 4,none⟩ u0).setCell ⟨g',m * 4 + 1,none⟩ u1).setCell ⟨g',m * 4 + 2,none⟩ u2).setCell ⟨g',m * 4 + 3,none⟩ u3).heap) :
  wF.ownsRow B e 4 (.slice (some ⟨g',0,none⟩) N cap') N (xs++[u0,u1,u2,u3])∧(∀ b,b ≠ g'→wF.heap[b]? = (w10.setCell q uq).heap[b]?)∧wF.heap.size=w10.heap.size:=by
 have hF:wF.heap=(((((w10.setCell ⟨g',m * 4,none⟩ u0).setCell ⟨g',m * 4 + 1,none⟩ u1).setCell ⟨g',m * 4 + 2,none⟩ u2).setCell ⟨g',m * 4 + 3,none⟩ u3).setCell q uq).heap:=by
  rcases hF with h | h
  ·exact h
  ·exact h.trans (z8m _ _ _ _ _ _ _ _ _ _ _ (fun e=>hgg e.symm) (fun e=>hgg e.symm) (fun e=>hgg e.symm) (fun e=>hgg e.symm))
 have hg':(Value.slice (some ⟨g',0,none⟩) N cap').ownBlock=some g':=rfl;have S1:=z3t hown hg' (m * 4) u0;have S2:=z3t S1 hg' (m * 4 + 1) u1;have S3:=z3t S2 hg' (m * 4 + 2) u2;have S4:=z3t S3 hg' (m * 4 + 3) u3;rw[set4 hx] at S4;have S5:=ownsRow_setCell_other S4 (a:=q) (by rw[hg'];intro e;injection e with e;exact hgg e.symm) uq;refine⟨z0f S5 (fun g _=>by rw[hF]),fun b h1=>?_,by rw[hF];simp[World.setCell]⟩
 by_cases h2:b=q.block
 ·rw[hF,z8m w10 q ⟨g',m * 4,none⟩ ⟨g',m * 4 + 1,none⟩ ⟨g',m * 4 + 2,none⟩ ⟨g',m * 4 + 3,none⟩ uq u0 u1 u2 u3 (fun e=>hgg e.symm) (fun e=>hgg e.symm) (fun e=>hgg e.symm) (fun e=>hgg e.symm) |>.symm]
  rw[Below.heap_setCell _ ⟨g',m * 4 + 3,none⟩ _ b h1,Below.heap_setCell _ ⟨g',m * 4 + 2,none⟩ _ b h1,Below.heap_setCell _ ⟨g',m * 4 + 1,none⟩ _ b h1,Below.heap_setCell _ ⟨g',m * 4,none⟩ _ b h1]
 ·rw[hF,Below.heap_setCell _ q _ b h2,Below.heap_setCell _ ⟨g',m * 4 + 3,none⟩ _ b h1,Below.heap_setCell _ ⟨g',m * 4 + 2,none⟩ _ b h1,Below.heap_setCell _ ⟨g',m * 4 + 1,none⟩ _ b h1,Below.heap_setCell _ ⟨g',m * 4,none⟩ _ b h1,Below.heap_setCell w10 q _ b h2]
section
variable {w1 w9 w10 wF : World} {B P : Nat} {K : Nat→Prop} {fs : List Mk.Fo} {os : List (Mk.Bs × List Mk.At)} {vn vo v' : Value} {ns xo : List Value}
theorem j0l (h:BldV w1 B P K fs os vn vo ns xo) (hb9:Below w1.heap.size w1 w9) (hown:w10.ownsRow B 38 4 v' (os.length + 1) (xo++[.string ⟨#[]⟩,.slice none 0 0,.string ⟨#[]⟩,.slice none 0 0])) (hg:w9.grownBy w10 vo.ownBlock)
  (hf:v'.ownBlock=vo.ownBlock∨v'.ownBlock=some w9.heap.size) :
  ∃ g' cap',v'=.slice (some ⟨g',0,none⟩) (os.length + 1) cap'∧w10.cell? ⟨g',os.length * 4,none⟩=some (.string ⟨#[]⟩)∧w10.cell? ⟨g',os.length * 4 + 1,none⟩=some (.slice none 0 0)∧w10.cell? ⟨g',os.length * 4 + 2,none⟩=some (.string ⟨#[]⟩)∧w10.cell? ⟨g',os.length * 4 + 3,none⟩=some (.slice none 0 0)∧(∀ i,w10.frozen? ⟨g',i,none⟩=false)∧P ≠ g'∧Blk w10 P 92 #[vn,vo]∧(∀ b,b < w1.heap.size→vo.ownBlock ≠ some b→w10.heap[b]? = w1.heap[b]?):=by
 have hP:=Blk.lt h.blk;have hfr:∀ b,b < w1.heap.size→vo.ownBlock ≠ some b→w10.heap[b]? = w1.heap[b]?:=fun b h1 h2=>(hg.block b (Nat.lt_of_lt_of_le h1 hb9.size) (fun e=>h2 e.symm)).trans (hb9.block b h1)
 have hPo:vo.ownBlock ≠ some P:=fun e=>(h.do_ P e).1 rfl
 have hx:=h.oc.length
 rcases hown.2 with ⟨_,h0⟩ | ⟨g',cap',cur,hv,hb,hh,hnc,hcm,hcs,ht⟩
 ·omega
 ·have hc:=hown.cells (g:=g') (by rw[hv];rfl)
  have e0:∀ j,(⟨g',0,none⟩:Addr).add j=⟨g',j,none⟩:=by intro j;unfold Addr.add;split <;> simp_all
  have hcc:∀ i u,[Value.string ⟨#[]⟩,.slice none 0 0,.string ⟨#[]⟩,.slice none 0 0][i]? = some u→w10.cell? ⟨g',os.length * 4 + i,none⟩=some u:=by
   intro i u hu;have:=hc (os.length * 4 + i) u (by rw[List.getElem?_append_right (by omega),hx];simpa using hu)
   rwa [e0] at this
  refine⟨g',cap',hv,hcc 0 _ rfl,hcc 1 _ rfl,hcc 2 _ rfl,hcc 3 _ rfl,fun i=>by simp[World.frozen?,hh],?_,(hfr P hP hPo).trans h.blk,hfr⟩;rintro rfl
  rcases hf with e | e
  ·rw[hv] at e;exact hPo e.symm
  ·rw[hv] at e
   have e:some P=some w9.heap.size:=e;injection e with e;have:=hb9.size;omega
theorem q0q (h:BldV w1 B P K fs os vn vo ns xo) (hb9:Below w1.heap.size w1 w9) {g' cap':Nat}
  (hown:w10.ownsRow B 38 4 (.slice (some ⟨g',0,none⟩) (os.length + 1) cap') (os.length + 1) (xo++[.string ⟨#[]⟩,.slice none 0 0,.string ⟨#[]⟩,.slice none 0 0])) (hg:w9.grownBy w10 vo.ownBlock)
  (hf:(Value.slice (some ⟨g',0,none⟩) (os.length + 1) cap').ownBlock=vo.ownBlock∨(Value.slice (some ⟨g',0,none⟩) (os.length + 1) cap').ownBlock=some w9.heap.size) (hgP:P ≠ g')
  {n:List UInt8} {a:List Mk.At} {va:Value} (h2:AtsV w1 K va a)
  (hF:wF.heap=(((((w10.setCell ⟨g',os.length * 4,none⟩ (.string (st n))).setCell ⟨g',os.length * 4 + 1,none⟩ va).setCell ⟨g',os.length * 4 + 2,none⟩ (.string (st []))).setCell ⟨g',os.length * 4 + 3,none⟩ (.slice none 0 0)).setCell ⟨P,1,none⟩ (.slice (some ⟨g',0,none⟩) (os.length + 1) cap')).heap∨wF.heap=(((((w10.setCell ⟨P,1,none⟩ (.slice (some ⟨g',0,none⟩) (os.length + 1) cap')).setCell ⟨g',os.length * 4,none⟩ (.string (st n))).setCell ⟨g',os.length * 4 + 1,none⟩ va).setCell ⟨g',os.length * 4 + 2,none⟩ (.string (st []))).setCell ⟨g',os.length * 4 + 3,none⟩ (.slice none 0 0)).heap) (ho:wF.os=w10.os) (htp:wF.tape=w10.tape) (hout:wF.output=w10.output) :
  BldV wF B P K fs (os++[(n,a)]) vn (.slice (some ⟨g',0,none⟩) (os.length + 1) cap') ns (xo++[.string (st n),va,.string (st []),.slice none 0 0])∧Ap (fun b=>B≤b∧¬ K b) w1 wF:=by
 have hg':(Value.slice (some ⟨g',0,none⟩) (os.length + 1) cap').ownBlock=some g':=rfl;obtain⟨SF,hbF,hsz⟩:=j4u h.oc.length hown (q:=⟨P,1,none⟩) hgP hF;have hP:=Blk.lt h.blk;have hPo:vo.ownBlock ≠ some P:=fun e=>(h.do_ P e).1 rfl
 have fr:g' < w1.heap.size→vo.ownBlock=some g':=by
  intro hlt
  rcases hf with e | e
  ·rw[← e];exact hg'
  ·rw[hg'] at e;injection e with e;have:=hb9.size;omega
 have hfr:∀ b,b < w1.heap.size→vo.ownBlock ≠ some b→w10.heap[b]? = w1.heap[b]?:=fun b h1 h2=>(hg.block b (Nat.lt_of_lt_of_le h1 hb9.size) (fun e=>h2 e.symm)).trans (hb9.block b h1)
 have hb:∀ b,b < w1.heap.size→vo.ownBlock ≠ some b→b ≠ P→wF.heap[b]? = w1.heap[b]?:=by
  intro b h1 h2 h3;rw[hbF b (by rintro rfl;exact h2 (fr h1)),Below.heap_setCell w10 ⟨P,1,none⟩ _ b h3,hfr b h1 h2]
 have hs:w1.heap.size≤wF.heap.size:=by rw[hsz];exact Nat.le_trans hb9.size hg.size
 have hKb:∀ b,K b→wF.heap[b]? = w1.heap[b]?:=fun b q=>hb b (h.kle b q).2 (fun e=>(h.do_ b e).2.1 q) (fun e=>h.nK (e ▸ q))
 have kp:∀ b,K b→K b∧wF.heap[b]? = w1.heap[b]?:=fun b q=>⟨q,hKb b q⟩
 have hblk:Blk wF P 92 #[vn,.slice (some ⟨g',0,none⟩) (os.length + 1) cap']:=by
  have q:Blk w10 P 92 #[vn,vo]:=(hfr P hP hPo).trans h.blk;exact(hbF P hgP).trans (Blk.set_ q 1 _)
 have hfo:∀ (i:Nat) (v:Value) (b:Nat),ns[i]? = some v→v.ownBlock=some b→wF.heap[b]? = w1.heap[b]?:=by
  intro i v b q1 q2;obtain⟨_,xs1,o,_⟩:=h.own_at q1;have q3:=h.df i v b q1 q2;exact hb b (o.own.lt b q2).2 q3.2.2.1 q3.1
 refine⟨⟨hblk,h.hP,h.nK,fun b q=>⟨(h.kle b q).1,Nat.lt_of_lt_of_le (h.kle b q).2 hs⟩,?_,?_,?_,?_,h.dn,?_,?_⟩,⟨ho.trans (hg.os.trans hb9.os),htp.trans (hg.tape.trans hb9.tape),hout.trans (hg.output.trans hb9.output),hs,fun b h1 h2=>?_⟩⟩
 ·exact z0f h.rn fun g e=>hb g (h.rn.lt g e).2 (fun q=>(h.do_ g q).2.2 e) (h.dn g e).1
 ·rw[List.length_append];exact SF
 ·exact(h.oc.frame kp).snoc (h2.frame kp)
 ·intro i f v q1 q2
  obtain⟨xs1,o⟩:=h.fo i f v q1 q2;refine⟨xs1,o.frame hs fun b b1 b2=>?_⟩
  rcases b2 with b2 | b2
  ·exact hKb b b2
  ·exact hfo i v b q2 b2
 ·intro g e
  rw[hg'] at e;injection e with e;subst e;refine⟨fun e=>hgP e.symm,fun q=>?_,fun q=>?_⟩
  ·exact(h.do_ g' (fr (h.kle g' q).2)).2.1 q
  ·exact(h.do_ g' (fr (h.rn.lt g' q).2)).2.2 q
 ·intro i v g q1 q2
  obtain⟨a1,a2,a3,a4⟩:=h.df i v g q1 q2;refine⟨a1,a2,fun e=>?_,a4⟩;rw[hg'] at e;injection e with e;subst e;obtain⟨_,xs1,o,_⟩:=h.own_at q1;exact a3 (fr (o.own.lt g' q2).2)
 ·by_cases hB:B≤b
  ·exact hKb b (Classical.byContradiction fun q=>h2 ⟨hB,q⟩)
  ·refine hb b h1 (fun e=>?_) (fun e=>?_)
   ·have:=(h.ro.lt b e).1;omega
   ·have:=h.hP;omega
theorem j3u (h:BldV w1 B P K fs os vn vo ns xo) (hb9:Below w1.heap.size w1 w9) (hown:w10.ownsRow B 22 1 v' (fs.length + 1) (ns++[.slice none 0 0])) (hg:w9.grownBy w10 vn.ownBlock)
  (hf:v'.ownBlock=vn.ownBlock∨v'.ownBlock=some w9.heap.size) :
  Blk w10 P 92 #[vn,vo]∧BldV (w10.setCell ⟨P,0,none⟩ v') B P K (fs++[.nil]) os v' vo (ns++[.slice none 0 0]) xo∧Ap (fun b=>B≤b∧¬ K b) w1 (w10.setCell ⟨P,0,none⟩ v'):=by
 have hP:=Blk.lt h.blk;have hPn:vn.ownBlock ≠ some P:=fun e=>(h.dn P e).1 rfl
 have fr:∀ g,v'.ownBlock=some g→g < w1.heap.size→vn.ownBlock=some g:=by
  intro g hg' hlt
  rcases hf with e | e
  ·rw[← e];exact hg'
  ·rw[hg'] at e;injection e with e;have:=hb9.size;omega
 have hfr:∀ b,b < w1.heap.size→vn.ownBlock ≠ some b→w10.heap[b]? = w1.heap[b]?:=fun b h1 h2=>(hg.block b (Nat.lt_of_lt_of_le h1 hb9.size) (fun e=>h2 e.symm)).trans (hb9.block b h1)
 have hb:∀ b,b < w1.heap.size→vn.ownBlock ≠ some b→b ≠ P→(w10.setCell ⟨P,0,none⟩ v').heap[b]? = w1.heap[b]?:=by
  intro b h1 h2 h3;rw[Below.heap_setCell w10 ⟨P,0,none⟩ _ b h3,hfr b h1 h2]
 have hs:w1.heap.size≤(w10.setCell ⟨P,0,none⟩ v').heap.size:=by
  have:(w10.setCell ⟨P,0,none⟩ v').heap.size=w10.heap.size:=by simp[World.setCell]
  rw[this];exact Nat.le_trans hb9.size hg.size
 have hKb:∀ b,K b→(w10.setCell ⟨P,0,none⟩ v').heap[b]? = w1.heap[b]?:=fun b q=>hb b (h.kle b q).2 (fun e=>(h.dn b e).2 q) (fun e=>h.nK (e ▸ q))
 have kp:∀ b,K b→K b∧(w10.setCell ⟨P,0,none⟩ v').heap[b]? = w1.heap[b]?:=fun b q=>⟨q,hKb b q⟩
 have hne:v'.ownBlock ≠ some P:=fun e=>hPn (fr P e hP)
 have hnl:=h.nlen;refine⟨(hfr P hP hPn).trans h.blk,⟨?_,h.hP,h.nK,fun b q=>⟨(h.kle b q).1,Nat.lt_of_lt_of_le (h.kle b q).2 hs⟩,?_,?_,h.oc.frame kp,?_,?_,?_,?_⟩,⟨hg.os.trans hb9.os,hg.tape.trans hb9.tape,hg.output.trans hb9.output,hs,fun b h1 h2=>?_⟩⟩
 ·have q:Blk w10 P 92 #[vn,vo]:=(hfr P hP hPn).trans h.blk
  exact Blk.set_ q 0 v'
 ·rw[List.length_append];exact ownsRow_setCell_other hown (a:=⟨P,0,none⟩) hne v'
 ·exact z0f h.ro fun g e=>hb g (h.ro.lt g e).2 (h.do_ g e).2.2 (h.do_ g e).1
 ·intro i f v q1 q2
  rcases Nat.lt_or_ge i fs.length with hi | hi
  ·rw[List.getElem?_append_left hi] at q1
   rw[List.getElem?_append_left (by omega)] at q2;obtain⟨xs1,o⟩:=h.fo i f v q1 q2;refine⟨xs1,o.frame hs fun b b1 b2=>?_⟩
   rcases b2 with b2 | b2
   ·exact hKb b b2
   ·have:=h.df i v b q2 b2
    exact hb b b1 this.2.1 this.1
  ·have hi2:i=fs.length:=by
    rcases Nat.lt_or_ge fs.length i with q | q
    ·rw[List.getElem?_eq_none (by simp;omega)] at q1;cases q1
    ·omega
   subst hi2;rw[z0r fs .nil _ rfl] at q1;rw[z0r ns _ _ hnl.symm] at q2;injection q1 with q1;injection q2 with q2;subst q1;subst q2;exact⟨[],⟨World.ownsRow_nil _ _ _ _,rfl,(fun g e=>(by cases e)),fun b q=>Nat.lt_of_lt_of_le (h.kle b q).2 hs⟩⟩
 ·intro g e
  refine⟨fun q=>hne (q ▸ e),fun q=>?_⟩;exact(h.dn g (fr g e (h.kle g q).2)).2 q
 ·intro g e
  obtain⟨a1,a2,a3⟩:=h.do_ g e;exact⟨a1,a2,fun q=>a3 (fr g q (h.ro.lt g e).2)⟩
 ·intro i v g q1 q2
  have hi:i < ns.length:=by
   rcases Nat.lt_or_ge i ns.length with hi | hi
   ·exact hi
   ·rcases Nat.lt_or_ge ns.length i with q | q
    ·rw[List.getElem?_eq_none (by simp;omega)] at q1;cases q1
    ·have:i=ns.length:=by omega
     subst this;rw[z0r ns _ _ rfl] at q1;injection q1 with q1;subst q1;cases q2
  rw[List.getElem?_append_left hi] at q1;obtain⟨a1,a2,a3,a4⟩:=h.df i v g q1 q2;obtain⟨_,xs1,o,_⟩:=h.own_at q1;refine⟨a1,fun e=>a2 (fr g e (o.own.lt g q2).2),a3,fun j u q3 q4=>?_⟩
  rcases Nat.lt_or_ge j ns.length with hj | hj
  ·rw[List.getElem?_append_left hj] at q3
   exact a4 j u q3 q4
  ·exfalso
   rcases Nat.lt_or_ge ns.length j with q | q
   ·rw[List.getElem?_eq_none (by simp;omega)] at q3;cases q3
   ·have:j=ns.length:=by omega
    subst this;rw[z0r ns _ _ rfl] at q3;injection q3 with q3;subst q3;cases q4
 ·by_cases hB:B≤b
  ·exact hKb b (Classical.byContradiction fun q=>h2 ⟨hB,q⟩)
  ·refine hb b h1 (fun e=>?_) (fun e=>?_)
   ·have:=(h.rn.lt b e).1;omega
   ·have:=h.hP;omega
end
end Go.Proofs.YtagleefekmdldaaGreatDoor
namespace Mk
theorem q93 (l:List Bs) (o:Option Nat):(z8l l o).length≤l.length:=by
 cases o with
 | none=>exact Lr
 | some k=>show (l.take k).length≤_;rw[List.length_take];omega
theorem j6l (l:List Bs) (n:Bs):stays l n≤l.length:=by
 unfold stays;have h1:∀ l:List Bs,(if z5o n then z8l l (above [112] z7i l) else l).length≤l.length:=by
  intro l;split
  ·exact q93 _ _
  ·exact Lr
 have h2:∀ l:List Bs,(if n == [108,105] then z8l l (above [108,105] z8o l) else l).length≤l.length:=by
  intro l;split
  ·exact q93 _ _
  ·exact Lr
 exact Nat.le_trans (h2 _) (h1 _)
namespace Bld
theorem q2p:∀ (n:Nat) (b:Bld),(ops (z3z n b)).length≤(ops b).length
 | 0,_=>Lr
 | n + 1,b=>by
  have h1:=q2p n b.pop;have h2:=q4k b;show (ops (z3z n b.pop)).length≤_;omega
theorem q0w (b:Bld) (n:Nat):(ops (b.close n)).length≤(ops b).length:=q2p _ b
theorem z8j (b:Bld) (n:Nat):bulk (b.close n)≤bulk b:=q0v _ b
theorem q6f (b:Bld) (n:Bs) (a:List At) (t:Bs) (k:Fo):ops (z3u b n a t k)=ops b:=by
 obtain⟨L,f,_,h⟩:=q4n b;exact(h n a t k).2
theorem z7x (b:Bld):b.names.length=b.ops.length:=by rw[q6d];simp
def tokB (l:List Tok):Nat:=(l.map fun t=>2 + t.name.length + t.text.length + Fo.atB t.ats).sum
theorem z5y (t:Tok) (l:List Tok):tokB (t :: l)=2 + t.name.length + t.text.length + Fo.atB t.ats + tokB l:=by simp[tokB]
theorem j6s (b:Bld) (t:Tok) (h:(ops b).length≤8):(ops (b.token t)).length≤8:=by
 unfold token
 split
 ·rw[q6f];exact h
 split
 ·have hc:=q0w b (stays b.names t.name)
  simp only []
  split
  ·omega
  split
  ·rw[q6f];omega
  ·rename_i h1 _
   rw[(q4m (b.close (stays b.names t.name)) t.name t.ats).2,List.length_append,List.length_singleton];rw[← z5a] at h1;omega
 split
 ·split
  ·exact h
  ·have:=q0w b;rename_i i _;have:=this i;omega
 ·exact h
theorem j2v (b:Bld) (t:Tok):bulk (b.token t)≤bulk b + (2 + t.name.length + t.text.length + Fo.atB t.ats):=by
 unfold token
 split
 ·have:=q9i b [] [] t.text .nil
  have e:Fo.atB []=0:=rfl;have e2:Fo.bulk .nil=0:=rfl;rw[e,e2] at this;simp only [List.length_nil] at this;omega
 split
 ·have hc:=z8j b (stays b.names t.name)
  simp only []
  split
  ·omega
  split
  ·have:=q9i (b.close (stays b.names t.name)) t.name t.ats [] .nil
   have e2:Fo.bulk .nil=0:=rfl;rw[e2] at this;simp only [List.length_nil] at this;omega
  ·obtain⟨e1,e2⟩:=q4m (b.close (stays b.names t.name)) t.name t.ats
   have e3:bulk (b.close (stays b.names t.name))=foB (fos (b.close (stays b.names t.name))) + opB (ops (b.close (stays b.names t.name))):=rfl;have e4:Fo.bulk .nil=0:=rfl;have e5:bulk b=foB (fos b) + opB (ops b):=rfl;unfold bulk;rw[e1,e2,z4w,q88,z4x,q89,e4];omega
 split
 ·split
  ·omega
  ·rename_i i _;have:=z8j b i;omega
 ·omega
end Bld
end Mk
namespace Go.Proofs.YtagleefekmdldaaGreatDoor
open Go.Proofs.Tryz Go.RowKit
theorem BldS.grow {w w1:World} {B P:Nat} {K S:Nat→Prop} {b:Mk.Bld} (h:BldS w B P K b) (hb:Below w.heap.size w w1) (hS:∀ x,S x→w.heap.size≤x∧x < w1.heap.size):BldS w1 B P (fun x=>K x∨S x) b:=by
 obtain⟨vn,vo,ns,xo,h⟩:=h;refine⟨vn,vo,ns,xo,(h.below hb).more (fun x q=>.inl q) ?_ ?_⟩
 ·rintro x (q | q)
  ·have:=h.kle x q
   have:=hb.size;omega
  ·have:=hS x q
   have:=h.blt;omega
 ·rintro x (q | q)
  ·refine⟨fun e=>h.nK (e ▸ q),fun e=>(h.dn x e).2 q,fun e=>(h.do_ x e).2.1 q,fun i v q1 e=>?_⟩
   obtain⟨_,_,o,_⟩:=h.own_at q1;exact o.ne x e q
  ·have hx:=(hS x q).1
   refine⟨fun e=>?_,fun e=>?_,fun e=>?_,fun i v q1 e=>?_⟩
   ·have:=Blk.lt h.blk;omega
   ·have:=(h.rn.lt x e).2;omega
   ·have:=(h.ro.lt x e).2;omega
   ·obtain⟨_,_,o,_⟩:=h.own_at q1
    have:=(o.own.lt x e).2;omega
theorem j6v {w:World} {B P:Nat} {K:Nat→Prop} {b:Mk.Bld} (h:BldS w B P K b) (n:List UInt8) (a:List Mk.At) (t:List UInt8) (va:Value) (hva:AtsV w K va a) (hbk:b.bulk + (1 + n.length + t.length + Mk.Fo.atB a)≤1099511627776) (hl:b.ops.length≤1048576) :
  Calls prog 89 #[.pointer (some ⟨P,0,none⟩),z0d n va t (.slice none 0 0)] w fun e w'=>e=.returned (.tuple #[])∧BldS w' B P K (b.z3u n a t .nil)∧Ap (fun x=>B≤x∧¬ K x) w w':=by
 obtain⟨vn,vo,ns,xo,h⟩:=h;obtain⟨L,f,h1,h2⟩:=b.q4n;obtain⟨h3,h4⟩:=h2 n a t .nil;have hfl:=b.q7p;rw[h1,List.length_append,List.length_singleton] at hfl;have hb:b.bulk=Mk.Bld.foB b.fos + Mk.Bld.opB b.ops:=rfl;rw[h1,Mk.Bld.z4w,Mk.Bld.z4x] at hb;rw[h1] at h;have e2:Mk.Fo.bulk .nil=0:=rfl;refine(tr_put h n a t .nil va hva none 0 [] (.inl rfl) rfl (Nat.zero_le _) (by rw[e2];omega) (by omega)).mono ?_;rintro e w' ⟨rfl,⟨ns',hb'⟩,hap⟩;exact⟨rfl,⟨vn,vo,ns',xo,by rw[h3,h4];exact hb'⟩,hap⟩
theorem Tryz.infoRow:(prog.info? 22).map (fun i=>(i.zero,i.size,i.bytes))=some (some (.slice none 0 0),1,24):=by kernel_rfl
theorem BldS.pushed {w wF:World} {B P:Nat} {K:Nat→Prop} {c:Mk.Bld} {n:List UInt8} {a:List Mk.At} {vn vo:Value} {ns xo:List Value} (h:BldV wF B P K (c.fos++[.nil]) (c.ops++[(n,a)]) vn vo ns xo):BldS wF B P K { c with open_:=c.open_++[⟨n,a,.nil⟩] }:=by
 obtain⟨e1,e2⟩:=c.q4m n a;exact⟨vn,vo,ns,xo,by rw[e1,e2];exact h⟩
end Go.Proofs.YtagleefekmdldaaGreatDoor
