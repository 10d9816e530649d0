/- Contract of the token reader's method to. Condition: a text of at most 1048576 bytes. -/
import Derived.Test.YtagleefekmdldaaGreatDoorYMkRd2
import Derived.Conc.MuLone
import Derived.Test.YtagleefekmdldaaGreatDoorYUrlPlain
set_option linter.unusedVariables false
set_option linter.unusedSimpArgs false
set_option maxHeartbeats 1000000
set_option maxRecDepth 100000
namespace Go.Proofs.YtagleefekmdldaaGreatDoor
open Go.Proofs.Tryz Go.RowKit
theorem w64 {n:Int} (h0:0≤n) (h1:n≤4611686018427387904):wrap64 n=n:=by unfold wrap64;omega
section
variable {w : World} {R : Nat} {s : ByteArray} {k : Nat} {tx : List UInt8} {ov : Value}
theorem q3e (p:List UInt8) (m:Nat) (hg:Gl w) (h:Rd w R s k tx ov) (hk:k≤s.size) (hs:s.size≤1048576) (hm:m≤2) (hp:p ≠ []) (hpl:p.length≤3) (hb:Mk.behind p (s.data.toList.drop (k + m))=none) :
  Calls prog 118 #[.pointer (some ⟨R,0,none⟩),.string (st p),.int .i64 m] w fun e w'=>e=Gave∧∃ n,w'=w.drewN n:=by
 have c0:=h.c0;have c1:=h.c1;obtain⟨t,ht⟩:∃ t:Nat,t=min s.size (k + m):=⟨_,rfl⟩;obtain⟨j,hj⟩:∃ j:Nat,j=k + m:=⟨_,rfl⟩;have hw:IntKind.i64.wrap ((k:Int) + m)=j:=by rw[IntKind.wrap_i64];omega
 have ht1:(t:Int)≤s.size:=by omega
 have hmin:min (s.size:Int) (j:Int)=t:=by omega
 have hd:(s.extract t s.size).data.toList=s.data.toList.drop (k + m):=by
  rw[Z4,z0b,List.take_of_length_le (by rw[List.length_drop,bs_len];omega)]
  rcases Nat.le_total s.size (k + m) with h1 | h1
  ·rw[List.drop_of_length_le (by simp;omega),List.drop_of_length_le (by simp;omega)]
  ·rw[ht,Nat.min_eq_right h1]
 rw[Mk.q0o p hp] at hb;have hi:Lib.index (s.data.toList.drop (k + m)) p = -1:=by
  by_cases h1:Lib.index (s.data.toList.drop (k + m)) p = -1
  ·exact h1
  ·rw[if_neg h1] at hb;cases hb
 obtain⟨mm,hmm⟩:=hg.ml;have hc:=fun n=>Tryz.strings_Index (s.extract t s.size) (st p) mm (w.drewN n) (by rw[show (s.extract t s.size).size=(s.extract t s.size).data.toList.length from (bs_len _).symm,hd,List.length_drop,bs_len];omega) hmm
 rw[hd,z0b,hi] at hc;have HC:=Ld hc;clear hc hd hi hb hmm ht hj;go_enter func118,ntmps118;go_wp2_with fail
 go_quiet ((go_at_call 144;exact(HC.out _).mono fun e w'' hh=>⟨hh.1,_,hh.2⟩))
 go_wp2_with fail;exact⟨rfl,rfl,_,rfl⟩
theorem q3f (p:List UInt8) (m:Nat) (hg:Gl w) (h:Rd w R s k tx ov) (hk:k≤s.size) (hs:s.size≤1048576) (hm:m≤2) (hp:p ≠ []) (hpl:p.length≤3) {r:List UInt8} (hb:Mk.behind p (s.data.toList.drop (k + m))=some r) :
  Calls prog 118 #[.pointer (some ⟨R,0,none⟩),.string (st p),.int .i64 m] w fun e w'=>e=.returned (.tuple #[])∧∃ j,j≤s.size∧k < j∧r=s.data.toList.drop j∧Rd w' R s j tx ov∧Moved R w w':=by
 have c0:=h.c0;have c1:=h.c1;have f1:=h.fz 1;obtain⟨t,ht⟩:∃ t:Nat,t=min s.size (k + m):=⟨_,rfl⟩;obtain⟨j,hj⟩:∃ j:Nat,j=k + m:=⟨_,rfl⟩;have hw:IntKind.i64.wrap ((k:Int) + m)=j:=by rw[IntKind.wrap_i64];omega
 have ht1:(t:Int)≤s.size:=by omega
 have hmin:min (s.size:Int) (j:Int)=t:=by omega
 have hd:(s.extract t s.size).data.toList=s.data.toList.drop (k + m):=by
  rw[Z4,z0b,List.take_of_length_le (by rw[List.length_drop,bs_len];omega)]
  rcases Nat.le_total s.size (k + m) with h1 | h1
  ·rw[List.drop_of_length_le (by simp;omega),List.drop_of_length_le (by simp;omega)]
  ·rw[ht,Nat.min_eq_right h1]
 rw[Mk.q0o p hp] at hb;have hi:¬ Lib.index (s.data.toList.drop (k + m)) p = -1:=by
  intro h1;rw[if_pos h1] at hb;cases hb
 rw[if_neg hi] at hb;have hge:=Lib.index_ge (s.data.toList.drop (k + m)) p;obtain⟨i,hie⟩:∃ i:Nat,Lib.index (s.data.toList.drop (k + m)) p=i:=⟨_,(Int.toNat_of_nonneg (by omega)).symm⟩;have hil:k + m + i + p.length≤s.size:=by
  have h1:=Lib.index_room (s.data.toList.drop (k + m)) p (by omega);rw[hie,List.length_drop,bs_len] at h1;have h2:=List.length_pos_iff.2 hp;omega
 rw[hie,Int.toNat_natCast,List.drop_drop] at hb;have hb:s.data.toList.drop (k + m + (i + p.length))=r:=by simpa using hb
 obtain⟨mm,hmm⟩:=hg.ml;have hc:=fun n=>Tryz.strings_Index (s.extract t s.size) (st p) mm (w.drewN n) (by rw[show (s.extract t s.size).size=(s.extract t s.size).data.toList.length from (bs_len _).symm,hd,List.length_drop,bs_len];omega) hmm
 rw[hd,z0b,hie] at hc;have HC:=Ld hc;have HIL:=Ld hil;clear hil;have HB:=Ld hb;clear hc hd hi hb hmm ht hie hge hj;go_enter func118,ntmps118;go_wp2_with fail
 go_quiet ((go_at_call 144;exact(HC.out _).mono fun e w'' hh=>⟨hh.1,_,hh.2⟩))
 go_wp2_with fail;have e1:wrap64 ((k:Int) + wrap64 (wrap64 ((m:Int) + i) + (st p).size))=((k + m + (i + p.length):Nat):Int):=by
  have:=HIL.out;rw[y9,w64 (n:=(m:Int) + i) (by omega) (by omega),w64 (n:=(m:Int) + i + p.length) (by omega) (by omega),w64 (by omega) (by omega)];omega
 rw[e1];go_end0;refine⟨rfl,k + m + (i + p.length),by have:=HIL.out;omega,?_,HB.out.symm,(h.drewN nq).at_ _,((Moved.refl R w).drewN nq).setCell 1 _⟩;have h2:=List.length_pos_iff.2 hp;omega
end

theorem Z7 {P : Program} {f : FuncId} {fn : Func} {c : Code} (hf : P.funcs[f]? = some fn) (hname : (fn.name == "runtime.NumGoroutine") = false) (hb : fn.body = some c) (args : Array Value) (w : World) :
  (callFunc f args).run P w=.ok (.enter f args) w:=by
 have h1 : fn.name ≠ "runtime.NumGoroutine" := by simpa using hname
 simp[callFunc,hf,h1,hb]
theorem z1g (c:UInt8):Mk.white c=true↔((c.toNat:Int)=9∨(c.toNat:Int)=10∨(c.toNat:Int)=12∨(c.toNat:Int)=13∨(c.toNat:Int)=32):=Mg.z0h (fun c=>Mk.white c=true↔((c.toNat:Int)=9∨(c.toNat:Int)=10∨(c.toNat:Int)=12∨(c.toNat:Int)=13∨(c.toNat:Int)=32)) (by decide +kernel) c
theorem j6m (c:UInt8):(c != 60)=true↔¬ (c.toNat:Int)=60:=Mg.z0h (fun c=>(c != 60)=true↔¬ (c.toNat:Int)=60) (by decide +kernel) c
theorem tag1_iff (c:UInt8):Mk.Q7 c=true↔¬ ((c.toNat:Int)=9∨(c.toNat:Int)=10∨(c.toNat:Int)=12∨(c.toNat:Int)=13∨(c.toNat:Int)=32)∧¬ (c.toNat:Int)=47∧¬ (c.toNat:Int)=62:=Mg.z0h (fun c=>Mk.Q7 c=true↔¬ ((c.toNat:Int)=9∨(c.toNat:Int)=10∨(c.toNat:Int)=12∨(c.toNat:Int)=13∨(c.toNat:Int)=32)∧¬ (c.toNat:Int)=47∧¬ (c.toNat:Int)=62) (by decide +kernel) c
theorem j3a (c:UInt8):(c == 34 || c == 39)=true↔((c.toNat:Int)=34∨(c.toNat:Int)=39):=Mg.z0h (fun c=>(c == 34 || c == 39)=true↔((c.toNat:Int)=34∨(c.toNat:Int)=39)) (by decide +kernel) c
theorem j3b (c:UInt8):(!Mk.white c && c != 62)=true↔¬ ((c.toNat:Int)=9∨(c.toNat:Int)=10∨(c.toNat:Int)=12∨(c.toNat:Int)=13∨(c.toNat:Int)=32)∧¬ (c.toNat:Int)=62:=Mg.z0h (fun c=>(!Mk.white c && c != 62)=true↔¬ ((c.toNat:Int)=9∨(c.toNat:Int)=10∨(c.toNat:Int)=12∨(c.toNat:Int)=13∨(c.toNat:Int)=32)∧¬ (c.toNat:Int)=62) (by decide +kernel) c
theorem j0f (c:UInt8):(Mk.white c || c == 47)=true↔(((c.toNat:Int)=9∨(c.toNat:Int)=10∨(c.toNat:Int)=12∨(c.toNat:Int)=13∨(c.toNat:Int)=32)∨(c.toNat:Int)=47):=Mg.z0h (fun c=>(Mk.white c || c == 47)=true↔(((c.toNat:Int)=9∨(c.toNat:Int)=10∨(c.toNat:Int)=12∨(c.toNat:Int)=13∨(c.toNat:Int)=32)∨(c.toNat:Int)=47)) (by decide +kernel) c
theorem j0g (c:UInt8):Mk.Y6 c=true↔¬ ((c.toNat:Int)=9∨(c.toNat:Int)=10∨(c.toNat:Int)=12∨(c.toNat:Int)=13∨(c.toNat:Int)=32)∧¬ (c.toNat:Int)=47∧¬ (c.toNat:Int)=62∧¬ (c.toNat:Int)=61:=Mg.z0h (fun c=>Mk.Y6 c=true↔¬ ((c.toNat:Int)=9∨(c.toNat:Int)=10∨(c.toNat:Int)=12∨(c.toNat:Int)=13∨(c.toNat:Int)=32)∧¬ (c.toNat:Int)=47∧¬ (c.toNat:Int)=62∧¬ (c.toNat:Int)=61) (by decide +kernel) c
theorem j0h (c:UInt8):(c == 61)=true↔(c.toNat:Int)=61:=Mg.z0h (fun c=>(c == 61)=true↔(c.toNat:Int)=61) (by decide +kernel) c
theorem z3m (c:UInt8) (w:World) :
  Calls prog 142 #[.int .u8 c.toNat] w fun e w'=>e=.returned (.bool (Mk.white c))∧w'=w:=by
 have hb:(c.toNat:Int)≤255:=by have:=c.toNat_lt;omega
 go_enter func142,ntmps142;go_wp2_with fail
 all_goals (go_ret;refine⟨Z8 ?_,rfl⟩;rw[Bool.eq_iff_iff,z1g];simp;try omega)
theorem z8f (w:World):Asks 142 #[] Mk.white w:=fun c=>z3m c w
theorem q43 (args:Array Value) (w:World):(callFunc 142 args).run prog w=.ok (.enter 142 args) w:=Z7 func142 (by kernel_rfl) rfl _ _
theorem j0d (w:World):Asks 115 #[] (fun c=>c != 60) w:=by
 intro c;have hb:(c.toNat:Int)≤255:=by have:=c.toNat_lt;omega
 go_enter func115,ntmps115;go_wp2_with (go_at_call 142;refine(z3m _ _).mono ?_;rintro e w' ⟨rfl,rfl⟩)
 all_goals (go_ret;refine⟨Z8 ?_,rfl⟩;rw[Bool.eq_iff_iff,j6m];(try simp only [z1g] at *);first | (simp;done) | (simp;omega))
theorem eg_step1 (args:Array Value) (w:World):(callFunc 115 args).run prog w=.ok (.enter 115 args) w:=Z7 func115 (by kernel_rfl) rfl _ _
theorem q5d (w:World):Asks 141 #[] Mk.Q7 w:=by
 intro c;have hb:(c.toNat:Int)≤255:=by have:=c.toNat_lt;omega
 go_enter func141,ntmps141;go_wp2_with (go_at_call 142;refine(z3m _ _).mono ?_;rintro e w' ⟨rfl,rfl⟩)
 all_goals (go_ret;refine⟨Z8 ?_,rfl⟩;rw[Bool.eq_iff_iff,tag1_iff];(try simp only [z1g] at *);first | (simp;done) | (simp;omega))
theorem j4n (args:Array Value) (w:World):(callFunc 141 args).run prog w=.ok (.enter 141 args) w:=Z7 func141 (by kernel_rfl) rfl _ _
theorem q0j (w:World):Asks 175 #[] (fun c=>c == 34 || c == 39) w:=by
 intro c;have hb:(c.toNat:Int)≤255:=by have:=c.toNat_lt;omega
 go_enter func175,ntmps175;go_wp2_with (go_at_call 142;refine(z3m _ _).mono ?_;rintro e w' ⟨rfl,rfl⟩)
 all_goals (go_ret;refine⟨Z8 ?_,rfl⟩;rw[Bool.eq_iff_iff,j3a];(try simp only [z1g] at *);first | (simp;done) | (simp;omega))
theorem q5o (args:Array Value) (w:World):(callFunc 175 args).run prog w=.ok (.enter 175 args) w:=Z7 func175 (by kernel_rfl) rfl _ _
theorem q7d (w:World):Asks 177 #[] (fun c=>!Mk.white c && c != 62) w:=by
 intro c;have hb:(c.toNat:Int)≤255:=by have:=c.toNat_lt;omega
 go_enter func177,ntmps177;go_wp2_with (go_at_call 142;refine(z3m _ _).mono ?_;rintro e w' ⟨rfl,rfl⟩)
 all_goals (go_ret;refine⟨Z8 ?_,rfl⟩;rw[Bool.eq_iff_iff,j3b];(try simp only [z1g] at *);first | (simp;done) | (simp;omega))
theorem j4q (args:Array Value) (w:World):(callFunc 177 args).run prog w=.ok (.enter 177 args) w:=Z7 func177 (by kernel_rfl) rfl _ _
theorem q78 (w:World):Asks 158 #[] (fun c=>Mk.white c || c == 47) w:=by
 intro c;have hb:(c.toNat:Int)≤255:=by have:=c.toNat_lt;omega
 go_enter func158,ntmps158;go_wp2_with (go_at_call 142;refine(z3m _ _).mono ?_;rintro e w' ⟨rfl,rfl⟩)
 all_goals (go_ret;refine⟨Z8 ?_,rfl⟩;rw[Bool.eq_iff_iff,j0f];(try simp only [z1g] at *);first | (simp;done) | (simp;omega))
theorem j4j (args:Array Value) (w:World):(callFunc 158 args).run prog w=.ok (.enter 158 args) w:=Z7 func158 (by kernel_rfl) rfl _ _
theorem q79 (w:World):Asks 160 #[] Mk.Y6 w:=by
 intro c;have hb:(c.toNat:Int)≤255:=by have:=c.toNat_lt;omega
 go_enter func160,ntmps160;go_wp2_with (go_at_call 142;refine(z3m _ _).mono ?_;rintro e w' ⟨rfl,rfl⟩)
 all_goals (go_ret;refine⟨Z8 ?_,rfl⟩;rw[Bool.eq_iff_iff,j0g];(try simp only [z1g] at *);first | (simp;done) | (simp;omega))
theorem j4k (args:Array Value) (w:World):(callFunc 160 args).run prog w=.ok (.enter 160 args) w:=Z7 func160 (by kernel_rfl) rfl _ _
theorem q7a (w:World):Asks 161 #[] (fun c=>c == 61) w:=by
 intro c;have hb:(c.toNat:Int)≤255:=by have:=c.toNat_lt;omega
 go_enter func161,ntmps161;go_wp2_with (go_at_call 142;refine(z3m _ _).mono ?_;rintro e w' ⟨rfl,rfl⟩)
 all_goals (go_ret;refine⟨Z8 ?_,rfl⟩;rw[Bool.eq_iff_iff,j0h];(try simp only [z1g] at *);first | (simp;done) | (simp;omega))
theorem j4l (args:Array Value) (w:World):(callFunc 161 args).run prog w=.ok (.enter 161 args) w:=Z7 func161 (by kernel_rfl) rfl _ _
theorem z7b (c d:UInt8):(c != d) = !((c.toNat:Int) == (d.toNat:Int)):=by
 rw[Bool.eq_iff_iff,bne_iff_ne,Bool.not_eq_true',beq_eq_false_iff_ne,ne_eq,ne_eq,← UInt8.toNat_inj];omega
theorem q7c (Q:Nat) (d:UInt8) (w:World) (hq:w.cell? ⟨Q,0,none⟩=some (.int .u8 d.toNat)):Asks 176 #[.pointer (some ⟨Q,0,none⟩)] (fun c=>c != d) w:=by
 intro c;go_enter func176,ntmps176;go_wp2_with fail
 all_goals (go_ret;refine⟨Z8 ?_,rfl⟩;first | (rw[z7b];done) | (rw[z7b];simp;done) | (rw[z7b];simp[bne];done))
theorem j4p (args:Array Value) (w:World):(callFunc 176 args).run prog w=.ok (.enter 176 args) w:=Z7 func176 (by kernel_rfl) rfl _ _
end Go.Proofs.YtagleefekmdldaaGreatDoor
