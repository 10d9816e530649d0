/- Contracts of the program's Light, attr, allowed and has: links in the light of a base, names that may be. Condition: texts of at most 33554432 bytes. -/
import Derived.Test.YtagleefekmdldaaGreatDoorYMkTok5
import Derived.Test.YtagleefekmdldaaGreatDoorYUrlF
set_option linter.unusedVariables false
set_option linter.unusedSimpArgs false
set_option maxHeartbeats 1000000
namespace Go.Proofs.YtagleefekmdldaaGreatDoor
open Go.Proofs.Tryz Go.RowKit
theorem j6x (base s:List UInt8) (w:World) :
  Calls prog 149 #[.string (st base),.string (st s)] w fun e w'=>e=.returned (.string (st (Mk.light base s)))∧Below w.heap.size w w':=by
 have walk:∀ (x:List UInt8) (c:Int),(c=0→Mk.light base s=x)→(c ≠ 0→Mk.light base s=s)→(Calls prog 167 #[.string (st base),.string (st s)] w fun e w'=>e=.returned (.tuple #[.string (st x),.int .i64 c])∧Below w.heap.size w w') →
   Calls prog 149 #[.string (st base),.string (st s)] w fun e w'=>e=.returned (.string (st (Mk.light base s)))∧Below w.heap.size w w':=by
  intro x c h0 h1 hc;have HC:=Ld hc;have H0:=Ld h0;have H1:=Ld h1;clear hc h0 h1;go_enter func149,ntmps149;go_wp2_with fail;refine HC.out.mono ?_;rintro e w1 ⟨rfl,hb⟩
  by_cases h:c=0
  ·have E:=Ld (H0.out h)
   subst h;go_wp2_with fail;go_ret;exact⟨z8v (by rw[E.out]),hb⟩
  ·have E:=Ld (H1.out h)
   have hcb:(c == 0)=false:=beq_eq_false_iff_ne.2 h;go_wp2_with fail;go_ret;exact⟨z8v (by rw[E.out]),hb⟩
 have hl:Mk.light base s=if 3000 < base.length∨3000 < s.length∨Mg.z1j base=0 then s else match Mg.res base s with | none=>s | some t=>t:=rfl
 by_cases h1:3000 < base.length∨3000 < s.length
 ·exact walk [] 2 (fun h=>absurd h (by decide)) (fun _=>by rw[hl,if_pos];rcases h1 with h | h;exact .inl h;exact .inr (.inl h)) (z9x (st base) (st s) w h1)
 have hb:base.length≤3000:=by omega
 have hs:s.length≤3000:=by omega
 by_cases h2:Mg.z1j base=0
 ·exact walk [] 1 (fun h=>absurd h (by decide)) (fun _=>by rw[hl,if_pos (.inr (.inr h2))]) (z9w (st base) (st s) w hb hs h2)
 have hl2:Mk.light base s=match Mg.res base s with | none=>s | some t=>t:=by
  rw[hl,if_neg];rintro (q | q | q)
  ·omega
  ·omega
  ·exact h2 q
 cases hj:Mg.q33 (Mg.resU (Mg.split base) (Mg.split s)) with
 | false =>
  refine walk [] 1 (fun h=>absurd h (by decide)) (fun _=>?_) (q2f (st base) (st s) w hb hs h2 hj);rw[hl2,Mg.res];simp only [hj];rfl
 | true =>
  refine walk (Mg.join (Mg.resU (Mg.split base) (Mg.split s))) 0 (fun _=>?_) (fun h=>absurd rfl h) (q2g (st base) (st s) w hb hs h2 hj);rw[hl2,Mg.res];simp only [hj];rfl

theorem j3z (e:List UInt8) (a:Mk.At) (w:World) :
  Calls prog 78 #[.string (st e),atV a] w fun x w'=>x=.returned (.bool (Mk.mayB e a.n))∧Below w.heap.size w w':=by
 have hst:∀ l:List UInt8,(st l).toList=l:=fun l=>Lib.toList_data _
 have hm:Mk.mayB e a.n=if e=[97] then a.n == [104,114,101,102] || a.n == [116,105,116,108,101] else if e=[105,109,103] then a.n == [115,114,99] || a.n == [97,108,116] else false:=rfl
 have hal:=fun o=>(Below.refl w.heap.size w).alloc (Lr) o
 have HAL:=Ld hal;clear hal;unfold atV
 by_cases h1:e=[97]
 ·have HM:Hid (Mk.mayB e a.n=(a.n == [104,114,101,102] || a.n == [116,105,116,108,101])):=by show _=_;rw[hm,if_pos h1]
  have e1:(e == [97])=true:=beq_iff_eq.2 h1;clear hm h1;go_enter func78,ntmps78;go_wp2_with fail
  all_goals (go_ret;refine⟨Z8 ?_,HAL.out _⟩;first | (rw[HM.out];done) | (rw[HM.out];simp[*];done))
 ·have e1:(e == [97])=false:=beq_eq_false_iff_ne.2 h1
  by_cases h2:e=[105,109,103]
  ·have HM:Hid (Mk.mayB e a.n=(a.n == [115,114,99] || a.n == [97,108,116])):=by show _=_;rw[hm,if_neg h1,if_pos h2]
   have e2:(e == [105,109,103])=true:=beq_iff_eq.2 h2;clear hm h1 h2;go_enter func78,ntmps78;go_wp2_with fail
   all_goals (go_ret;refine⟨Z8 ?_,HAL.out _⟩;first | (rw[HM.out];done) | (rw[HM.out];simp[*];done))
  ·have HM:Hid (Mk.mayB e a.n=false):=by show _=_;rw[hm,if_neg h1,if_neg h2]
   have e2:(e == [105,109,103])=false:=beq_eq_false_iff_ne.2 h2;clear hm;go_enter func78,ntmps78;go_wp2_with fail
   all_goals (go_ret;exact⟨Z8 HM.out.symm,HAL.out _⟩)

theorem j1x (n:List UInt8):Lib.containsS ((Mk.z8s.map st).take 14) (st n)=Mk.z0u n:=by
 rw[List.take_of_length_le (by decide)];rw[Bool.eq_iff_iff,Lib.containsS_iff,Mk.z0u,List.contains_iff_mem,List.mem_map];constructor
 ·rintro ⟨x,h1,h2⟩
  have:x=n:=by have:=congrArg (fun b:ByteArray=>b.data.toList) h2;exact this
  rw[← this];exact h1
 ·intro h
  exact⟨n,h,rfl⟩
theorem q2o (n:List UInt8) (w:World) :
  Calls prog 81 #[.string (st n)] w fun e w'=>e=.returned (.bool (Mk.z0u n))∧Below w.heap.size w w':=by
 go_enter func81,ntmps81;go_wp2_with fail;have hal:=(Below.refl w.heap.size w).alloc (Lr) (.cells ((Mk.z8s.map fun x=>Value.string (st x)).toArray) 9);have hc:=Tryz.slices_Contains_string w.heap.size 0 14 14 (Mk.z8s.map st) (st n) (w.alloc (.cells ((Mk.z8s.map fun x=>Value.string (st x)).toArray) 9)) (by decide) (by decide) (fun j hj=>by
  have hj':j < 14:=hj;rw[Nat.zero_add,Blk.cell (Blk.new w 9 ((Mk.z8s.map fun x=>Value.string (st x)).toArray)) j]
  rcases (by omega:j=0∨j=1∨j=2∨j=3∨j=4∨j=5∨j=6∨j=7∨j=8∨j=9∨j=10∨j=11∨j=12∨j=13) with h | h | h | h | h | h | h | h | h | h | h | h | h | h <;> subst h <;> rfl)
 rw[j1x] at hc;refine hc.mono ?_;rintro e w1 ⟨rfl,rfl⟩;go_wp2_with fail;go_ret;exact⟨rfl,hal⟩
theorem j3q (P:Nat) (nm:List UInt8) (l:List Mk.At) (w:World) (hP:P < w.heap.size) (hc:w.cell? ⟨P,0,none⟩=some (.string (st nm))):j0b 111 #[.pointer (some ⟨P,0,none⟩)] (fun a=>a.n == nm) l w:=by
 intro w1 hb a _;have c0:w1.cell? ⟨P,0,none⟩=some (.string (st nm)):=(hb.cell (p:=⟨P,0,none⟩) hP).trans hc;have hP1:P < w1.heap.size:=Nat.lt_of_lt_of_le hP hb.size;unfold atV;go_enter func111,ntmps111;go_wp2_with fail;go_ret;exact⟨Z8 (by rw[show (st a.n).toList=a.n from Lib.toList_data _,show (st nm).toList=nm from Lib.toList_data _]),(Below.refl _ w1).alloc (Lr) _⟩
theorem eg_has1 (args:Array Value) (w:World):(callFunc 111 args).run prog w=.ok (.enter 111 args) w:=Z7 func111 (by kernel_rfl) rfl _ _
theorem cl_has (l:List Mk.At) (nm:List UInt8) (v:Value) (K:Nat→Prop) (w:World) (hv:AtsV w K v l) (hK:∀ b,K b→b < w.heap.size) (hl:l.length≤33554432) :
  Calls prog 82 #[v,.string (st nm)] w fun e w'=>e=.returned (.bool (Mk.z1d l nm))∧Below w.heap.size w w':=by
 have hal:=(Below.refl w.heap.size w).alloc (Lr) (.cells #[.string (st nm)] 9);have PB:=Blk.new w 9 #[.string (st nm)];have HCF:=Ld (z14 111 #[.pointer (some ⟨w.heap.size,0,none⟩)] (fun a=>a.n == nm) eg_has1 l v K (w.alloc (.cells #[.string (st nm)] 9)) (hv.below hK hal) (fun b hb=>Nat.lt_of_lt_of_le (hK b hb) hal.size) hl (j3q w.heap.size nm l _ PB.lt (PB.cell 0)));have AL:=Ld hal;clear hal PB hK hv;go_enter func82,ntmps82;go_wp2_with fail;refine HCF.out.mono ?_;rintro e w1 ⟨rfl,hb⟩;have L:=Ld (AL.out.trans (hb.mono AL.out.size));clear hb HCF;go_wp2_with fail;go_ret;exact⟨rfl,L.out⟩
end Go.Proofs.YtagleefekmdldaaGreatDoor
