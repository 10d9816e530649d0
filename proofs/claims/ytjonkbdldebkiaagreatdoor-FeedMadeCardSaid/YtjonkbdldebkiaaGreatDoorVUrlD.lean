/- Contracts of the program's joined, Split and Join. Condition: all texts together at most 67108864 bytes. -/
import Derived.Test.YtjonkbdldebkiaaGreatDoorVUrlC
import Derived.Deep.RegionHeld3
import Derived.Test.YtjonkbdldebkiaaGreatDoorVMkTake
import Derived.Deep.CutBlock
import Derived.Deep.DeepCutAuto
set_option linter.unusedVariables false
set_option linter.unusedSimpArgs false
set_option maxHeartbeats 2000000
set_option maxRecDepth 100000
namespace Go.Proofs.YtjonkbdldebkiaaGreatDoor
open Go.Proofs.Tryz Go.RowKit

theorem z3m (x y:ByteArray):x++y=st (x.data.toList++y.data.toList):=by
 rw[← st_bs (x++y)]
 congr 1
theorem q85 (a:Addr) (s x y z:ByteArray) (w:World) (hc:w.cell? a=some (.string s)) (hf:w.frozen? a=false) (hl:s.size + x.size + y.size + z.size≤8388608) :
  Calls prog 182 #[.bool true,.string x,.string y,.string z,.pointer (some a)] w fun e w'=>e=.returned (.tuple #[])∧w'=w.setCell a (.string (st (s.data.toList++x.data.toList++y.data.toList++z.data.toList))):=by
 go_enter func182,ntmps182;go_wp2;go_end0;refine⟨rfl,?_⟩;rw[z3m x y,z3m _ z,z3m s];simp only [z1o,List.append_assoc]
theorem j2f (a:Addr) (x y z:ByteArray) (w:World) :
  Calls prog 182 #[.bool false,.string x,.string y,.string z,.pointer (some a)] w fun e w'=>e=.returned (.tuple #[])∧w'=w:=by
 go_enter func182,ntmps182;go_wp2;go_end0;exact⟨rfl,rfl⟩

def jput (h:Bool) (s x y z:List UInt8):List UInt8:=if h then s++x++y++z else s
theorem q0e (h:Bool) (a:Addr) (s x y z:List UInt8) (w:World) (hc:w.cell? a=some (.string (st s))) (hf:w.frozen? a=false) (hl:s.length + x.length + y.length + z.length≤8388608) :
  Calls prog 182 #[.bool h,.string (st x),.string (st y),.string (st z),.pointer (some a)] w fun e w'=>e=.returned (.tuple #[])∧((h=true∧w'=w.setCell a (.string (st (jput h s x y z))))∨h=false∧w'=w):=by
 cases h with
 | true=>exact(q85 a (st s) (st x) (st y) (st z) w hc hf (by simpa [Z4] using hl)).mono fun e w' ⟨he,hw⟩=>⟨he,.inl ⟨rfl,hw⟩⟩
 | false=>exact(j2f a (st x) (st y) (st z) w).mono fun e w' ⟨he,hw⟩=>⟨he,.inr ⟨rfl,hw⟩⟩

structure JSt (w wk:World) (acc:List UInt8) (u:Mg.U):Prop where
 below:Below w.heap.size w wk
 uu:Blk wk w.heap.size 125 (z0i u)
 ac:Blk wk (w.heap.size + 1) 9 #[.string (st acc)]
theorem JSt.start (w:World) (u:Mg.U):JSt w ((w.alloc (.cells (z0i u) 125)).alloc (.cells #[.string (st [])] 9)) [] u:=by
 have b2:=Blk.new (w.alloc (.cells (z0i u) 125)) 9 #[.string (st [])];have e1:(w.alloc (.cells (z0i u) 125)).heap.size=w.heap.size + 1:=by simp
 rw[e1] at b2;exact⟨((Below.refl _ w).alloc (Lr) _).alloc (by omega) _,(Blk.new w 125 (z0i u)).alloc _,b2⟩
theorem JSt.step {w wk w':World} {acc x y z:List UInt8} {u:Mg.U} {h:Bool} (j:JSt w wk acc u) (hw:(h=true∧w'=wk.setCell ⟨w.heap.size + 1,0,none⟩ (.string (st (jput h acc x y z))))∨h=false∧w'=wk):JSt w w' (jput h acc x y z) u:=by
 rcases hw with ⟨rfl,rfl⟩ | ⟨rfl,rfl⟩
 ·exact⟨j.below.setCell (by show _≤w.heap.size + 1;omega) _,j.uu.far (by show _ ≠ w.heap.size + 1;omega) _,j.ac.set_ 0 _⟩
 ·exact j
theorem z8l (h:Bool) (s x y z:List UInt8):(jput h s x y z).length≤s.length + x.length + y.length + z.length:=by
 unfold jput;split
 ·simp only [List.length_append];omega
 ·omega
theorem j5z (u:Mg.U):jput u.hf (jput u.hq (jput true (jput u.ha (jput u.hs [] [] u.sch [58]) [47,47] u.au []) [] u.pa []) [63] u.qu []) [35] u.fr []=Mg.join u:=by
 obtain⟨a1,a2,a3,a4,a5,a6,a7,a8,a9⟩:=u
 cases a6 <;> cases a7 <;> cases a8 <;> cases a9 <;> simp[jput,Mg.join]
theorem q8u (a b:Mg.U) (w:World):(binOp .eql 125 (uVal a) (uVal b)).run prog w=.ok (.bool (a == b)) w:=by
 have hst:∀ l,(st l).toList=l:=fun l=>Lib.toList_data _
 simp only [binOp];simp only [Op.equal,Op.maxDepth,uVal];simp[run_equalIn_struct,go_sem];simp only [hst];obtain⟨a1,a2,a3,a4,a5,a6,a7,a8,a9⟩:=a;obtain⟨b1,b2,b3,b4,b5,b6,b7,b8,b9⟩:=b;have e:((⟨a1,a2,a3,a4,a5,a6,a7,a8,a9⟩:Mg.U) == ⟨b1,b2,b3,b4,b5,b6,b7,b8,b9⟩)=decide (a1=b1∧a2=b2∧a3=b3∧a4=b4∧a5=b5∧a6=b6∧a7=b7∧a8=b8∧a9=b9):=by
  rw[Bool.eq_iff_iff];simp
 rw[e]
 by_cases h1:a1=b1
 ·by_cases h2:a2=b2
  ·by_cases h3:a3=b3
   ·by_cases h4:a4=b4
    ·by_cases h5:a5=b5
     ·by_cases h6:a6=b6
      ·by_cases h7:a7=b7
       ·by_cases h8:a8=b8
        ·by_cases h9:a9=b9 <;> simp[h1,h2,h3,h4,h5,h6,h7,h8,h9]
        ·simp[h1,h2,h3,h4,h5,h6,h7,h8]
       ·simp[h1,h2,h3,h4,h5,h6,h7]
      ·simp[h1,h2,h3,h4,h5,h6]
     ·simp[h1,h2,h3,h4,h5]
    ·simp[h1,h2,h3,h4]
   ·simp[h1,h2,h3]
  ·simp[h1,h2]
 ·simp[h1]
theorem q6y (a u:Mg.U) (w:World):(binOp .eql 125 (uVal a) (.agg #[.string (st u.sch),.string (st u.au),.string (st u.pa),.string (st u.qu),.string (st u.fr),.bool u.hs,.bool u.ha,.bool u.hq,.bool u.hf])).run prog w=.ok (.bool (a == u)) w:=q8u a u w
theorem Tryz.guardUrl:prog.eqGuardType prog.depth 125=false:=by kernel_rfl
theorem q55 (a u:Mg.U) (x y:Operand) (w:World):(eqGuard .eql 125 x y (uVal a) (.agg #[.string (st u.sch),.string (st u.au),.string (st u.pa),.string (st u.qu),.string (st u.fr),.bool u.hs,.bool u.ha,.bool u.hq,.bool u.hf])).run prog w=.ok () w:=by
 unfold uVal;exact run_eqGuard_agg w .eql _ x y _ _ Tryz.guardUrl
theorem cell_kept {wk w1:World} {b o:Nat} {v:Value} (h:wk.cell? ⟨b,o,none⟩=some v) (hb:Below wk.heap.size wk w1):w1.cell? ⟨b,o,none⟩=some v :=
 (hb.cell (p:=⟨b,o,none⟩) (World.block_lt_of_cell? wk _ h)).trans h
theorem jkeep {w wk w1:World} {acc:List UInt8} {u:Mg.U} (h:wk.cell? ⟨w.heap.size + 1,0,none⟩=some (.string (st acc))∧wk.cell? ⟨w.heap.size,0,none⟩=some (.string (st u.sch))∧wk.cell? ⟨w.heap.size,1,none⟩=some (.string (st u.au))∧wk.cell? ⟨w.heap.size,2,none⟩=some (.string (st u.pa))∧wk.cell? ⟨w.heap.size,3,none⟩=some (.string (st u.qu))∧wk.cell? ⟨w.heap.size,4,none⟩=some (.string (st u.fr))∧wk.cell? ⟨w.heap.size,5,none⟩=some (.bool u.hs)∧wk.cell? ⟨w.heap.size,6,none⟩=some (.bool u.ha)∧wk.cell? ⟨w.heap.size,7,none⟩=some (.bool u.hq)∧wk.cell? ⟨w.heap.size,8,none⟩=some (.bool u.hf)) (hb:Below wk.heap.size wk w1) :
  w1.cell? ⟨w.heap.size + 1,0,none⟩=some (.string (st acc))∧w1.cell? ⟨w.heap.size,0,none⟩=some (.string (st u.sch))∧w1.cell? ⟨w.heap.size,1,none⟩=some (.string (st u.au))∧w1.cell? ⟨w.heap.size,2,none⟩=some (.string (st u.pa))∧w1.cell? ⟨w.heap.size,3,none⟩=some (.string (st u.qu))∧w1.cell? ⟨w.heap.size,4,none⟩=some (.string (st u.fr))∧w1.cell? ⟨w.heap.size,5,none⟩=some (.bool u.hs)∧w1.cell? ⟨w.heap.size,6,none⟩=some (.bool u.ha)∧w1.cell? ⟨w.heap.size,7,none⟩=some (.bool u.hq)∧w1.cell? ⟨w.heap.size,8,none⟩=some (.bool u.hf):=by
 obtain⟨a0,a1,a2,a3,a4,a5,a6,a7,a8,a9⟩:=h;exact⟨cell_kept a0 hb,cell_kept a1 hb,cell_kept a2 hb,cell_kept a3 hb,cell_kept a4 hb,cell_kept a5 hb,cell_kept a6 hb,cell_kept a7 hb,cell_kept a8 hb,cell_kept a9 hb⟩
theorem j3p (u:Mg.U) (w:World) (hl:u.sch.length + u.au.length + u.pa.length + u.qu.length + u.fr.length≤1048576) :
  Calls prog 123 #[uVal u] w fun e w'=>e=.returned (.tuple #[.string (st (Mg.join u)),.bool (Mg.q36 u)])∧Below w.heap.size w w':=by
 have js:=JSt.start w u;unfold uVal;go_enter func123,ntmps123;go_wp2_with fail;change Calls _ _ _ ((w.alloc (.cells (z0i u) 125)).alloc (.cells #[.string (st [])] 9)) _;generalize (w.alloc (.cells (z0i u) 125)).alloc (.cells #[.string (st [])] 9)=w1 at js ⊢;refine(q0e u.hs _ [] [] u.sch [58] _ (js.ac.cell 0) (js.ac.frozen 0) (by simp;omega)).mono ?_;rintro e w2 ⟨rfl,hw2⟩;have j2:=js.step hw2;clear js hw2;have c1:w2.cell? ⟨w.heap.size,6,none⟩=some (.bool u.ha):=j2.uu.cell 6;have c2:w2.cell? ⟨w.heap.size,1,none⟩=some (.string (st u.au)):=j2.uu.cell 1;have l2:=z8l u.hs [] [] u.sch [58];go_wp2_with fail;refine(q0e u.ha _ _ [47,47] u.au [] _ (j2.ac.cell 0) (j2.ac.frozen 0) (by simp at l2 ⊢;omega)).mono ?_;rintro e w3 ⟨rfl,hw3⟩;have j3:=j2.step hw3;have l3:=z8l u.ha (jput u.hs [] [] u.sch [58]) [47,47] u.au [];clear j2 hw3 c1 c2;have c1:w3.cell? ⟨w.heap.size,2,none⟩=some (.string (st u.pa)):=j3.uu.cell 2;go_wp2_with fail;refine(q0e true _ _ [] u.pa [] _ (j3.ac.cell 0) (j3.ac.frozen 0) (by simp at l2 l3 ⊢;omega)).mono ?_;rintro e w4 ⟨rfl,hw4⟩;have j4:=j3.step hw4;have l4:=z8l true (jput u.ha (jput u.hs [] [] u.sch [58]) [47,47] u.au []) [] u.pa [];clear j3 hw4 c1;have c1:w4.cell? ⟨w.heap.size,7,none⟩=some (.bool u.hq):=j4.uu.cell 7;have c2:w4.cell? ⟨w.heap.size,3,none⟩=some (.string (st u.qu)):=j4.uu.cell 3;go_wp2_with fail;refine(q0e u.hq _ _ [63] u.qu [] _ (j4.ac.cell 0) (j4.ac.frozen 0) (by simp at l2 l3 l4 ⊢;omega)).mono ?_;rintro e w5 ⟨rfl,hw5⟩;have j5:=j4.step hw5;have l5:=z8l u.hq (jput true (jput u.ha (jput u.hs [] [] u.sch [58]) [47,47] u.au []) [] u.pa []) [63] u.qu [];clear j4 hw5 c1 c2;have c1:w5.cell? ⟨w.heap.size,8,none⟩=some (.bool u.hf):=j5.uu.cell 8;have c2:w5.cell? ⟨w.heap.size,4,none⟩=some (.string (st u.fr)):=j5.uu.cell 4;go_wp2_with fail;refine(q0e u.hf _ _ [35] u.fr [] _ (j5.ac.cell 0) (j5.ac.frozen 0) (by simp at l2 l3 l4 l5 ⊢;omega)).mono ?_;rintro e w6 ⟨rfl,hw6⟩;have j6:=j5.step hw6;have l6:=z8l u.hf (jput u.hq (jput true (jput u.ha (jput u.hs [] [] u.sch [58]) [47,47] u.au []) [] u.pa []) [63] u.qu []) [35] u.fr [];clear j5 hw6 c1 c2;have hj:=j5z u;obtain⟨acc,hacc⟩:∃ acc,acc=jput u.hf (jput u.hq (jput true (jput u.ha (jput u.hs [] [] u.sch [58]) [47,47] u.au []) [] u.pa []) [63] u.qu []) [35] u.fr []:=⟨_,rfl⟩;rw[← hacc] at j6 l6 hj;have hlen:(st acc).size≤67108864:=by simp[Z4] at l2 l3 l4 l5 l6 ⊢;omega
 have HJ:=Ld hj;clear hacc l2 l3 l4 l5 l6 hj;have hbl:=j6.below;have s0:w6.cell? ⟨w.heap.size + 1,0,none⟩=some (.string (st acc)):=j6.ac.cell 0;have d0:w6.cell? ⟨w.heap.size,0,none⟩=some (.string (st u.sch)):=j6.uu.cell 0;have d1:w6.cell? ⟨w.heap.size,1,none⟩=some (.string (st u.au)):=j6.uu.cell 1;have d2:w6.cell? ⟨w.heap.size,2,none⟩=some (.string (st u.pa)):=j6.uu.cell 2;have d3:w6.cell? ⟨w.heap.size,3,none⟩=some (.string (st u.qu)):=j6.uu.cell 3;have d4:w6.cell? ⟨w.heap.size,4,none⟩=some (.string (st u.fr)):=j6.uu.cell 4;have d5:w6.cell? ⟨w.heap.size,5,none⟩=some (.bool u.hs):=j6.uu.cell 5;have d6:w6.cell? ⟨w.heap.size,6,none⟩=some (.bool u.ha):=j6.uu.cell 6;have d7:w6.cell? ⟨w.heap.size,7,none⟩=some (.bool u.hq):=j6.uu.cell 7;have d8:w6.cell? ⟨w.heap.size,8,none⟩=some (.bool u.hf):=j6.uu.cell 8;have hlt:=j6.ac.lt;clear j6;go_wp2_with fail;have heq:=fun W=>q6y (Mg.split (st acc).data.toList) u W
 have hgd:=fun x y W=>q55 (Mg.split (st acc).data.toList) u x y W
 go_region_held3 (fun w'=>w'.cell? ⟨w.heap.size + 1,0,none⟩=some (.string (st acc))∧w'.cell? ⟨w.heap.size,0,none⟩=some (.string (st u.sch))∧w'.cell? ⟨w.heap.size,1,none⟩=some (.string (st u.au))∧w'.cell? ⟨w.heap.size,2,none⟩=some (.string (st u.pa))∧w'.cell? ⟨w.heap.size,3,none⟩=some (.string (st u.qu))∧w'.cell? ⟨w.heap.size,4,none⟩=some (.string (st u.fr))∧w'.cell? ⟨w.heap.size,5,none⟩=some (.bool u.hs)∧w'.cell? ⟨w.heap.size,6,none⟩=some (.bool u.ha)∧w'.cell? ⟨w.heap.size,7,none⟩=some (.bool u.hq)∧w'.cell? ⟨w.heap.size,8,none⟩=some (.bool u.hf)) (first | exact⟨s0,d0,d1,d2,d3,d4,d5,d6,d7,d8⟩ | exact jkeep (wk:=w6.drew) ⟨s0,d0,d1,d2,d3,d4,d5,d6,d7,d8⟩ hb7) (first | (go_at_call 122;refine(q1p _ _ hlen).mono ?_;rintro e w7 ⟨rfl,hb7⟩))
 all_goals
  go_wp2_with fail;go_ret2;refine⟨?_,hbl.drew.trans (hb7.mono (by have:=hbl.size;exact this))⟩;rw[← HJ.out];show _=Ending.returned (.tuple #[.string (st acc),.bool (Mg.split (Mg.join u) == u)]);rw[← HJ.out];rfl
end Go.Proofs.YtjonkbdldebkiaaGreatDoor
namespace Mk
theorem j3k (n:Nat):∀ m r,r.length≤n→r.length≤m→takeN n r=takeN m r:=by
 induction n with
 | zero =>
  intro m r h _;have:r=[]:=List.eq_nil_of_length_eq_zero (by omega);subst this
  cases m <;> rfl
 | succ n ih =>
  intro m r h hm
  cases r with
  | nil=>cases m <;> rfl
  | cons c t =>
   rw[List.length_cons] at h hm
   cases m with
   | zero=>omega
   | succ m =>
    simp only [takeN];have e1:((c :: t).drop (max 1 (sign (c :: t)).2.1)).length≤t.length:=by rw[List.length_drop,List.length_cons];omega
    rw[ih m _ (by omega) (by omega),ih m t (by omega) (by omega)]
theorem take_nil:take []=([],true):=rfl
theorem j3l (c:UInt8) (t:Bs) (h:c ≠ 38):take (c :: t)=(c :: (take t).1,(take t).2):=by
 show takeN (t.length + 1) (c :: t)=_;simp only [takeN];rw[if_neg h];rfl
theorem take_amp (t:Bs):take (38 :: t)=((sign (38 :: t)).1++(take ((38 :: t).drop (max 1 (sign (38 :: t)).2.1))).1,(sign (38 :: t)).2.2 && (take ((38 :: t).drop (max 1 (sign (38 :: t)).2.1))).2):=by
 show takeN (t.length + 1) (38 :: t)=_;simp only [takeN];rw[if_pos trivial];have e1:((38 :: t).drop (max 1 (sign (38 :: t)).2.1)).length≤t.length:=by rw[List.length_drop,List.length_cons];omega
 rw[j3k t.length _ _ e1 (Lr)];rfl
theorem j09 (p:Bs):∀ r,(38:UInt8) ∉ p→take (p++r)=(p++(take r).1,(take r).2):=by
 induction p with
 | nil=>intro r _;rfl
 | cons c t ih =>
  intro r h;rw[List.mem_cons,not_or] at h;rw[List.cons_append,j3l c _ (fun e=>h.1 e.symm),ih r h.2];rfl
theorem j0h (p:Nat):(utf8 p).length≤4:=by
 unfold utf8
 split
 ·simp
 split
 ·simp
 split
 ·simp
 ·simp
theorem q6s {p l:Bs} (h:Mg.pre p l=true):p.length≤l.length:=by
 have h1:l.take p.length=p:=by simpa [Mg.pre] using h
 have:=congrArg List.length h1;rw[List.length_take] at this;omega
theorem j2y (l:Bs):(sign l).1.length≤4∧((sign l).2.1≤l.length):=by
 have hna:∀ c n,named l=some (c,n)→n≤l.length:=by
  intro c n e;unfold named at e
  split at e
  ·rename_i h;have:=q6s h;injection e with e;injection e with e1 e2;simp at this;omega
  split at e
  ·rename_i h;have:=q6s h;injection e with e;injection e with e1 e2;simp at this;omega
  split at e
  ·rename_i h;have:=q6s h;injection e with e;injection e with e1 e2;simp at this;omega
  split at e
  ·rename_i h;have:=q6s h;injection e with e;injection e with e1 e2;simp at this;omega
  split at e
  ·rename_i h;have:=q6s h;injection e with e;injection e with e1 e2;simp at this;omega
  ·cases e
 have hnu:∀ p n,numbered l=some (p,n)→n≤l.length:=by
  intro p n e;have hat:∀ x y z,numAt x y z l=some (p,n)→n≤l.length:=by
   intro x y z h;unfold numAt at h;simp only at h
   split at h
   ·cases h
   split at h
   ·rename_i h2
    injection h with h;injection h with h1 h3;have h4:(l.drop z).drop ((l.drop z).takeWhile (z04 x)).length ≠ []:=by intro e;rw[e] at h2;cases h2
    have h5:=List.length_pos_iff.2 h4;rw[List.length_drop,List.length_drop] at h5;omega
   ·cases h
  unfold numbered at e
  split at e
  ·exact hat _ _ _ e
  split at e
  ·exact hat _ _ _ e
  ·cases e
 unfold sign
 cases ha:named l with
 | some x=>exact⟨by simp,hna x.1 x.2 ha⟩
 | none =>
  simp only
  cases hb:numbered l with
  | none=>exact⟨by simp,Nat.zero_le _⟩
  | some x =>
   simp only
   split
   ·exact⟨j0h _,hnu x.1 x.2 hb⟩
   ·exact⟨by simp,hnu x.1 x.2 hb⟩
end Mk
namespace Go.Proofs.YtjonkbdldebkiaaGreatDoor
open Go.Proofs.Tryz Go.RowKit

def strl:Value→Nat | .string b=>b.size | _=>0
theorem z9g (i:List UInt8):strl (.string (st i))=i.length:=rfl
theorem j1x (c:UInt8) (l:List UInt8) :
  (Lib.indexByte l c = -1∧c ∉ l) ∨
  ∃ k t,l=l.take k++c :: t∧Lib.indexByte l c=(k:Nat)∧c ∉ l.take k∧k≤l.length∧l.drop (k + 1)=t:=by
 induction l with
 | nil=>exact .inl ⟨rfl,by simp⟩
 | cons b l ih =>
  rw[Lib.indexByte]
  by_cases hc:b=c
  ·subst hc
   exact .inr ⟨0,l,by simp,by simp,by simp,by simp,by simp⟩
  ·have hb:(b == c)=false:=beq_eq_false_iff_ne.2 hc
   rw[hb]
   rcases ih with ⟨h1,h2⟩ | ⟨k,t,h1,h2,h3,h4,h5⟩
   ·left
    rw[h1];exact⟨by simp,by rw[List.mem_cons,not_or];exact⟨fun e=>hc e.symm,h2⟩⟩
   ·right
    refine⟨k + 1,t,by rw[List.take_succ_cons,List.cons_append,← h1],?_,?_,by simp;omega,by simpa using h5⟩
    ·rw[h2]
     have:((k:Int) == -1)=false:=by rw[beq_eq_false_iff_ne];omega
     rw[this];simp
    ·rw[List.take_succ_cons,List.mem_cons,not_or]
     exact⟨fun e=>hc e.symm,h3⟩
theorem z4c {T e:TypeId} {B b:Nat} {bs:List Value} {w w':World} (h:Lib.IsBuilder T e B b bs w) (hk:∀ k,k < w.heap.size→w'.heap[k]? = w.heap[k]?):Lib.IsBuilder T e B b bs w':=by
 have key:∀ p,Lib.BuilderAt T e B b p bs w→Lib.BuilderAt T e B b p bs w':=by
  intro p h;have hlt:=h.lt;obtain⟨hB,v,hb,hown,hne⟩:=h;refine⟨hB,v,(hk b hlt).trans hb,⟨hown.1,?_⟩,hne⟩
  rcases hown.2 with h0 | ⟨g,cap,cur,hv,hbg,hg,h4⟩
  ·exact .inl h0
  ·have hgl:g < w.heap.size:=by
    rcases Nat.lt_or_ge g w.heap.size with h' | h'
    ·exact h'
    ·simp[Array.getElem?_eq_none h'] at hg
   exact .inr ⟨g,cap,cur,hv,hbg,(hk g hgl).trans hg,h4⟩
 exact h.imp (key _) (key _)
theorem cut_amp (l:List UInt8):(Lib.cut l [38]=(l,[],false)∧(38:UInt8) ∉ l)∨∃ p t,l=p++38 :: t∧Lib.cut l [38]=(p,t,true)∧(38:UInt8) ∉ p:=by
 unfold Lib.cut;rw[Lib.index_one]
 rcases j1x 38 l with ⟨h1,h2⟩ | ⟨k,t,h1,h2,h3,h4,h5⟩
 ·left;rw[h1];exact⟨rfl,h2⟩
 ·right
  refine⟨l.take k,t,h1,?_,h3⟩;rw[h2,if_pos (by omega)];simp only [Int.toNat_natCast,List.length_singleton];rw[h5]

theorem q0v (s:ByteArray) (w:World) (hs:s.size≤1048576) (hg:Gl w) :
  Calls prog 187 #[.string s] w fun e w'=>e=.returned (.tuple #[.string (st (Mk.take s.data.toList).1),.bool (Mk.take s.data.toList).2])∧Below w.heap.size w w':=by
 have hbu:Lib.IsBuilder 96 5 w.heap.size w.heap.size (Lib.byteCells []) (w.alloc (.cells #[.pointer none,.slice none 0 0] 96)) :=
  .inl ⟨Lr,.slice none 0 0,heap_alloc_new w _,World.ownsRow_nil _ _ _ _,by simp[Value.ownBlock]⟩
 have hl0:=(Below.refl _ w).alloc (Lr) (.cells #[.pointer none,.slice none 0 0] 96);have hlt:=hg.lt;go_enter func187,ntmps187;go_wp2_with fail;change Code.wp _ _ _ _ (w.alloc (.cells #[.pointer none,.slice none 0 0] 96));generalize w.alloc (.cells #[.pointer none,.slice none 0 0] 96)=w0 at hbu hl0 ⊢
 go_loopw [0,5] (fun a c wr=>∃ (r o:List UInt8) (ab:Bool),a=.string (st r)∧c=.bool ab∧Hid (Lib.IsBuilder 96 5 w.heap.size w.heap.size (Lib.byteCells o) wr)∧Hid (Below w.heap.size w wr)∧o.length + 4 * r.length≤4 * s.size∧Hid ((o++(Mk.take r).1,ab && (Mk.take r).2)=Mk.take s.data.toList)) (fun a _ _=>strl a)
 case atStart=>exact⟨s.data.toList,[],true,rfl,rfl,hbu,hl0,by simp,by show _=_;simp⟩
 case round =>
  obtain⟨r,o,ab,rfl,rfl,BU,BL,hlen,hx⟩:=hrel;have hst:∀ l,(st l).toList=l:=fun l=>Lib.toList_data _
  have hsz:=BL.out.size
  by_cases hr:r=[]
  ·subst hr
   have FIN:Hid (Mk.take s.data.toList=(o,ab)):=by show _=_;rw[← hx.out,Mk.take_nil];simp
   clear hx;go_wp2_with fail;refine(Tryz.Builder_String_any w.heap.size w.heap.size _ _ BU.out hsz).mono ?_;rintro e wz ⟨rfl,hbz⟩;have lz:=BL.out.trans hbz;clear hbz BU BL;go_wp2_with fail;go_ret2;exact⟨by rw[FIN.out];rfl,lz⟩
  have he:r.isEmpty=false:=by
   cases r with
   | nil=>exact absurd rfl hr
   | cons _ _=>rfl
  have hgr:=hg.below BL.out hlt;obtain⟨m,hm⟩:=hgr.ml;have hcut:=Tryz.strings_Cut (st r) (st [38]) m wr (by rw[Z4];omega) hm;rw[show (st r).data.toList=r from rfl,show (st [38]).data.toList=[38] from rfl] at hcut;have HCUT:=Ld hcut;have HG:=Ld hgr;clear hcut hm hgr hr
  rcases cut_amp r with ⟨hc,hno⟩ | ⟨p,q,hpq,hc,hno⟩
  ·have FIN:Hid (Mk.take s.data.toList=(o++r,ab)):=by
    show _=_;have h:=Mk.j09 r [] hno;rw[List.append_nil,Mk.take_nil] at h;rw[← hx.out,h];simp
   rw[hc] at HCUT;change Hid (Calls _ _ _ _ fun e w'=>e=.returned (.tuple #[.string (st r),.string (st []),.bool false])∧∃ n,w'=wr.drewN n) at HCUT;clear hx hc hno;go_wp2_with fail;refine HCUT.out.mono ?_;rintro e w1 ⟨rfl,n1,rfl⟩;have BU1:Hid (Lib.IsBuilder 96 5 w.heap.size w.heap.size (Lib.byteCells o) (wr.drewN n1)):=BU.out;go_wp2_with fail;refine(z1f w.heap.size w.heap.size _ (st r) _ BU1.out (by rw[Lib.byteCells_length,Z4];omega) hsz).mono ?_;rintro e w2 ⟨rfl,hb2,hl2⟩;have BU2:Hid (Lib.IsBuilder 96 5 w.heap.size w.heap.size (Lib.byteCells (o++r)) w2):=by
    show Lib.IsBuilder _ _ _ _ _ _;rw[Lib.byteCells_append];exact .inr hb2
   have BL2:Hid (Below w.heap.size w w2):=(below_drewN BL.out n1).trans hl2;clear hb2 hl2 BU1 BU BL;have hsz2:=BL2.out.size;go_wp2_with fail;refine(Tryz.Builder_String_any w.heap.size w.heap.size _ _ BU2.out hsz2).mono ?_;rintro e wz ⟨rfl,hbz⟩;have lz:=BL2.out.trans hbz;clear hbz BU2 BL2;go_wp2_with fail;go_ret2;exact⟨by rw[FIN.out];rfl,lz⟩
  ·obtain⟨g1,g2⟩:=Mk.j2y (38 :: q)
   have hpl:r.length=p.length + (q.length + 1):=by rw[hpq,List.length_append,List.length_cons]
   obtain⟨x,hxe⟩:∃ x,Mk.sign (38 :: q)=x:=⟨_,rfl⟩;have HX:Hid ((o++p++x.1++(Mk.take ((38 :: q).drop (max 1 x.2.1))).1,(ab && x.2.2) && (Mk.take ((38 :: q).drop (max 1 x.2.1))).2)=Mk.take s.data.toList):=by
    show _=_;rw[← hx.out,hpq,Mk.j09 p _ hno,Mk.take_amp,hxe];simp[Bool.and_assoc]
   have hsg:=fun W hG=>esc_sign (st (38 :: q)) W (by rw[Z4,List.length_cons];omega) hG
   rw[show (st (38 :: q)).data.toList=38 :: q from rfl,hxe] at hsg;rw[hxe,List.length_cons] at g2;rw[hxe] at g1;have HSG:=Ld hsg;rw[hc] at HCUT;change Hid (Calls _ _ _ _ fun e w'=>e=.returned (.tuple #[.string (st p),.string (st q),.bool true])∧∃ n,w'=wr.drewN n) at HCUT;clear hx hc hno hpq hxe hsg;go_wp2_with fail;refine HCUT.out.mono ?_;rintro e w1 ⟨rfl,n1,rfl⟩;have BU1:Hid (Lib.IsBuilder 96 5 w.heap.size w.heap.size (Lib.byteCells o) (wr.drewN n1)):=BU.out;go_wp2_with fail;refine(z1f w.heap.size w.heap.size _ (st p) _ BU1.out (by rw[Lib.byteCells_length,Z4];omega) hsz).mono ?_;rintro e w2 ⟨rfl,hb2,hl2⟩;have BU2:Hid (Lib.IsBuilder 96 5 w.heap.size w.heap.size (Lib.byteCells (o++p)) w2):=by
    show Lib.IsBuilder _ _ _ _ _ _;rw[Lib.byteCells_append];exact .inr hb2
   have BL2:Hid (Below w.heap.size w w2):=(below_drewN BL.out n1).trans hl2;clear hb2 hl2 BU1 BU BL;have hsz2:=BL2.out.size;have hcz:¬ 9223372036854775807 < (⟨#[38]⟩:ByteArray).size + (st q).size:=by rw[Z4,show (⟨#[38]⟩:ByteArray).size=1 from rfl];omega
   go_wp2_with fail;rw[show (⟨#[38]⟩:ByteArray)++st q=st (38 :: q) from z3m (st [38]) (st q)];refine(HSG.out _ (hg.below BL2.out hlt)).mono ?_;rintro e w3 ⟨rfl,hb3⟩;obtain⟨x1,n,right⟩:=x;have BU3:Hid (Lib.IsBuilder 96 5 w.heap.size w.heap.size (Lib.byteCells (o++p)) w3):=z4c BU2.out hb3.block;have BL3:Hid (Below w.heap.size w w3):=BL2.out.trans (hb3.mono hsz2);clear hb3 BU2 BL2 hsz2 HSG HCUT hcz;have hsz3:=BL3.out.size;have g3:n≤q.length + 1:=g2;have g4:x1.length≤4:=g1;unfold signV
   cases ab
   all_goals
    go_wp2_with fail;refine(z1f w.heap.size w.heap.size _ (st x1) _ BU3.out (by rw[Lib.byteCells_length,Z4,List.length_append];omega) hsz3).mono ?_;rintro e w4 ⟨rfl,hb4,hl4⟩;have BU4:Hid (Lib.IsBuilder 96 5 w.heap.size w.heap.size (Lib.byteCells (o++p++x1)) w4):=by
     show Lib.IsBuilder _ _ _ _ _ _;rw[Lib.byteCells_append];exact .inr hb4
    have BL4:Hid (Below w.heap.size w w4):=BL3.out.trans hl4;clear hb4 hl4;have hq1:((n:Int) - 1)≤(st q).size:=by rw[Z4];omega
    by_cases hn0:n=0
    ·subst hn0
     go_wp2_with fail;go_roundw
     case rel=>exact⟨q,o++p++x1,_,by rw[z0p];rfl,rfl,BU4,BL4,by rw[List.length_append,List.length_append];omega,HX⟩
     case measure =>
      have hz:(st r).size=p.length + (q.length + 1):=hpl
      first
       | (rw[z0p,z9g,z9g,z1o];rw[List.length_drop];omega)
       | (rw[z9g,z9g];omega)
    ·obtain⟨j,rfl⟩:∃ j,n=j + 1:=⟨n - 1,by omega⟩
     have hj:(j:Int)≤(st q).size:=by rw[Z4];omega
     rw[show max 1 (j + 1)=j + 1 by omega] at HX;go_wp2_with fail;go_roundw
     case rel=>exact⟨q.drop j,o++p++x1,_,by rw[z0p];rfl,rfl,BU4,BL4,by rw[List.length_append,List.length_append,List.length_drop];omega,HX⟩
     case measure =>
      rw[z0p,z9g,z9g,z1o,List.length_drop];omega
end Go.Proofs.YtjonkbdldebkiaaGreatDoor
