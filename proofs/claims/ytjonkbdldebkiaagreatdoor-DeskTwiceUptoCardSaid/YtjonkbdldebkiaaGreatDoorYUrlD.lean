/- Contracts of the program's joined, Split and Join. Condition: all texts together at most 67108864 bytes. -/
import Derived.Test.YtjonkbdldebkiaaGreatDoorYUrlC
import Derived.Deep.RegionHeld3
import Derived.Test.YtjonkbdldebkiaaGreatDoorYMkTake
import Derived.Deep.CutBlock
import Derived.Deep.DeepCutAuto
import Derived.Test.YtjonkbdldebkiaaGreatDoorYMkTok2
set_option linter.unusedVariables false
set_option linter.unusedSimpArgs false
set_option maxHeartbeats 4000000
set_option maxRecDepth 100000
namespace Go.Proofs.YtjonkbdldebkiaaGreatDoor
open Go.Proofs.Tryz Go.RowKit

theorem z3m (x y:ByteArray):x++y=st (x.data.toList++y.data.toList):=by
 rw[← st_bs (x++y)]
 congr 1
theorem q85 (a:Addr) (s x y z:ByteArray) (w:World) (hc:w.cell? a=some (.string s)) (hf:w.frozen? a=false) (hl:s.size + x.size + y.size + z.size≤8388608) :
  Calls prog 182 #[.bool true,.string x,.string y,.string z,.pointer (some a)] w fun e w'=>e=.returned (.tuple #[])∧w'=w.setCell a (.string (st (s.data.toList++x.data.toList++y.data.toList++z.data.toList))):=by
 go_enter func182,ntmps182;go_wp2;go_end0;refine⟨rfl,?_⟩;rw[z3m x y,z3m _ z,z3m s];simp only [z1o,List.append_assoc]
theorem j2f (a:Addr) (x y z:ByteArray) (w:World) :
  Calls prog 182 #[.bool false,.string x,.string y,.string z,.pointer (some a)] w fun e w'=>e=.returned (.tuple #[])∧w'=w:=by
 go_enter func182,ntmps182;go_wp2;go_end0;exact⟨rfl,rfl⟩

def jput (h:Bool) (s x y z:List UInt8):List UInt8:=if h then s++x++y++z else s
theorem q18 (h:Bool) (a:Addr) (s x y z:List UInt8) (w:World) (hc:w.cell? a=some (.string (st s))) (hf:w.frozen? a=false) (hl:s.length + x.length + y.length + z.length≤8388608) :
  Calls prog 182 #[.bool h,.string (st x),.string (st y),.string (st z),.pointer (some a)] w fun e w'=>e=.returned (.tuple #[])∧((h=true∧w'=w.setCell a (.string (st (jput h s x y z))))∨h=false∧w'=w):=by
 cases h with
 | true=>exact(q85 a (st s) (st x) (st y) (st z) w hc hf (by simpa [Z4] using hl)).mono fun e w' ⟨he,hw⟩=>⟨he,.inl ⟨rfl,hw⟩⟩
 | false=>exact(j2f a (st x) (st y) (st z) w).mono fun e w' ⟨he,hw⟩=>⟨he,.inr ⟨rfl,hw⟩⟩

structure JSt (w wk:World) (acc:List UInt8) (u:Mg.U):Prop where
 below:Below w.heap.size w wk
 uu:Blk wk w.heap.size 125 (z0i u)
 ac:Blk wk (w.heap.size + 1) 9 #[.string (st acc)]
theorem JSt.start (w:World) (u:Mg.U):JSt w ((w.alloc (.cells (z0i u) 125)).alloc (.cells #[.string (st [])] 9)) [] u:=by
 have b2:=Blk.new (w.alloc (.cells (z0i u) 125)) 9 #[.string (st [])];have e1:(w.alloc (.cells (z0i u) 125)).heap.size=w.heap.size + 1:=by simp
 rw[e1] at b2;exact⟨((Below.refl _ w).alloc (Lr) _).alloc (by omega) _,(Blk.new w 125 (z0i u)).alloc _,b2⟩
theorem JSt.step {w wk w':World} {acc x y z:List UInt8} {u:Mg.U} {h:Bool} (j:JSt w wk acc u) (hw:(h=true∧w'=wk.setCell ⟨w.heap.size + 1,0,none⟩ (.string (st (jput h acc x y z))))∨h=false∧w'=wk):JSt w w' (jput h acc x y z) u:=by
 rcases hw with ⟨rfl,rfl⟩ | ⟨rfl,rfl⟩
 ·exact⟨j.below.setCell (by show _≤w.heap.size + 1;omega) _,j.uu.far (by show _ ≠ w.heap.size + 1;omega) _,j.ac.set_ 0 _⟩
 ·exact j
theorem z8l (h:Bool) (s x y z:List UInt8):(jput h s x y z).length≤s.length + x.length + y.length + z.length:=by
 unfold jput;split
 ·simp only [List.length_append];omega
 ·omega
theorem j5z (u:Mg.U):jput u.hf (jput u.hq (jput true (jput u.ha (jput u.hs [] [] u.sch [58]) [47,47] u.au []) [] u.pa []) [63] u.qu []) [35] u.fr []=Mg.join u:=by
 obtain⟨a1,a2,a3,a4,a5,a6,a7,a8,a9⟩:=u
 cases a6 <;> cases a7 <;> cases a8 <;> cases a9 <;> simp[jput,Mg.join]
theorem q8u (a b:Mg.U) (w:World):(binOp .eql 125 (uVal a) (uVal b)).run prog w=.ok (.bool (a == b)) w:=by
 have hst:∀ l,(st l).toList=l:=fun l=>Lib.toList_data _
 simp only [binOp];simp only [Op.equal,Op.maxDepth,uVal];simp[run_equalIn_struct,go_sem];simp only [hst];obtain⟨a1,a2,a3,a4,a5,a6,a7,a8,a9⟩:=a;obtain⟨b1,b2,b3,b4,b5,b6,b7,b8,b9⟩:=b;have e:((⟨a1,a2,a3,a4,a5,a6,a7,a8,a9⟩:Mg.U) == ⟨b1,b2,b3,b4,b5,b6,b7,b8,b9⟩)=decide (a1=b1∧a2=b2∧a3=b3∧a4=b4∧a5=b5∧a6=b6∧a7=b7∧a8=b8∧a9=b9):=by
  rw[Bool.eq_iff_iff];simp
 rw[e]
 by_cases h1:a1=b1
 ·by_cases h2:a2=b2
  ·by_cases h3:a3=b3
   ·by_cases h4:a4=b4
    ·by_cases h5:a5=b5
     ·by_cases h6:a6=b6
      ·by_cases h7:a7=b7
       ·by_cases h8:a8=b8
        ·by_cases h9:a9=b9 <;> simp[h1,h2,h3,h4,h5,h6,h7,h8,h9]
        ·simp[h1,h2,h3,h4,h5,h6,h7,h8]
       ·simp[h1,h2,h3,h4,h5,h6,h7]
      ·simp[h1,h2,h3,h4,h5,h6]
     ·simp[h1,h2,h3,h4,h5]
    ·simp[h1,h2,h3,h4]
   ·simp[h1,h2,h3]
  ·simp[h1,h2]
 ·simp[h1]
theorem q6y (a u:Mg.U) (w:World):(binOp .eql 125 (uVal a) (.agg #[.string (st u.sch),.string (st u.au),.string (st u.pa),.string (st u.qu),.string (st u.fr),.bool u.hs,.bool u.ha,.bool u.hq,.bool u.hf])).run prog w=.ok (.bool (a == u)) w:=q8u a u w
theorem Tryz.guardUrl:prog.eqGuardType prog.depth 125=false:=by kernel_rfl
theorem q55 (a u:Mg.U) (x y:Operand) (w:World):(eqGuard .eql 125 x y (uVal a) (.agg #[.string (st u.sch),.string (st u.au),.string (st u.pa),.string (st u.qu),.string (st u.fr),.bool u.hs,.bool u.ha,.bool u.hq,.bool u.hf])).run prog w=.ok () w:=by
 unfold uVal;exact run_eqGuard_agg w .eql _ x y _ _ Tryz.guardUrl
theorem cell_kept {wk w1:World} {b o:Nat} {v:Value} (h:wk.cell? ⟨b,o,none⟩=some v) (hb:Below wk.heap.size wk w1):w1.cell? ⟨b,o,none⟩=some v :=
 (hb.cell (p:=⟨b,o,none⟩) (World.block_lt_of_cell? wk _ h)).trans h
theorem jkeep {w wk w1:World} {acc:List UInt8} {u:Mg.U} (h:wk.cell? ⟨w.heap.size + 1,0,none⟩=some (.string (st acc))∧wk.cell? ⟨w.heap.size,0,none⟩=some (.string (st u.sch))∧wk.cell? ⟨w.heap.size,1,none⟩=some (.string (st u.au))∧wk.cell? ⟨w.heap.size,2,none⟩=some (.string (st u.pa))∧wk.cell? ⟨w.heap.size,3,none⟩=some (.string (st u.qu))∧wk.cell? ⟨w.heap.size,4,none⟩=some (.string (st u.fr))∧wk.cell? ⟨w.heap.size,5,none⟩=some (.bool u.hs)∧wk.cell? ⟨w.heap.size,6,none⟩=some (.bool u.ha)∧wk.cell? ⟨w.heap.size,7,none⟩=some (.bool u.hq)∧wk.cell? ⟨w.heap.size,8,none⟩=some (.bool u.hf)) (hb:Below wk.heap.size wk w1) :
  w1.cell? ⟨w.heap.size + 1,0,none⟩=some (.string (st acc))∧w1.cell? ⟨w.heap.size,0,none⟩=some (.string (st u.sch))∧w1.cell? ⟨w.heap.size,1,none⟩=some (.string (st u.au))∧w1.cell? ⟨w.heap.size,2,none⟩=some (.string (st u.pa))∧w1.cell? ⟨w.heap.size,3,none⟩=some (.string (st u.qu))∧w1.cell? ⟨w.heap.size,4,none⟩=some (.string (st u.fr))∧w1.cell? ⟨w.heap.size,5,none⟩=some (.bool u.hs)∧w1.cell? ⟨w.heap.size,6,none⟩=some (.bool u.ha)∧w1.cell? ⟨w.heap.size,7,none⟩=some (.bool u.hq)∧w1.cell? ⟨w.heap.size,8,none⟩=some (.bool u.hf):=by
 obtain⟨a0,a1,a2,a3,a4,a5,a6,a7,a8,a9⟩:=h;exact⟨cell_kept a0 hb,cell_kept a1 hb,cell_kept a2 hb,cell_kept a3 hb,cell_kept a4 hb,cell_kept a5 hb,cell_kept a6 hb,cell_kept a7 hb,cell_kept a8 hb,cell_kept a9 hb⟩
theorem j3p (u:Mg.U) (w:World) (hl:u.sch.length + u.au.length + u.pa.length + u.qu.length + u.fr.length≤1048576) :
  Calls prog 123 #[uVal u] w fun e w'=>e=.returned (.tuple #[.string (st (Mg.join u)),.bool (Mg.q36 u)])∧Below w.heap.size w w':=by
 have js:=JSt.start w u;unfold uVal;go_enter func123,ntmps123;go_wp2_with fail;change Calls _ _ _ ((w.alloc (.cells (z0i u) 125)).alloc (.cells #[.string (st [])] 9)) _;generalize (w.alloc (.cells (z0i u) 125)).alloc (.cells #[.string (st [])] 9)=w1 at js ⊢;refine(q18 u.hs _ [] [] u.sch [58] _ (js.ac.cell 0) (js.ac.frozen 0) (by simp;omega)).mono ?_;rintro e w2 ⟨rfl,hw2⟩;have j2:=js.step hw2;clear js hw2;have c1:w2.cell? ⟨w.heap.size,6,none⟩=some (.bool u.ha):=j2.uu.cell 6;have c2:w2.cell? ⟨w.heap.size,1,none⟩=some (.string (st u.au)):=j2.uu.cell 1;have l2:=z8l u.hs [] [] u.sch [58];go_wp2_with fail;refine(q18 u.ha _ _ [47,47] u.au [] _ (j2.ac.cell 0) (j2.ac.frozen 0) (by simp at l2 ⊢;omega)).mono ?_;rintro e w3 ⟨rfl,hw3⟩;have j3:=j2.step hw3;have l3:=z8l u.ha (jput u.hs [] [] u.sch [58]) [47,47] u.au [];clear j2 hw3 c1 c2;have c1:w3.cell? ⟨w.heap.size,2,none⟩=some (.string (st u.pa)):=j3.uu.cell 2;go_wp2_with fail;refine(q18 true _ _ [] u.pa [] _ (j3.ac.cell 0) (j3.ac.frozen 0) (by simp at l2 l3 ⊢;omega)).mono ?_;rintro e w4 ⟨rfl,hw4⟩;have j4:=j3.step hw4;have l4:=z8l true (jput u.ha (jput u.hs [] [] u.sch [58]) [47,47] u.au []) [] u.pa [];clear j3 hw4 c1;have c1:w4.cell? ⟨w.heap.size,7,none⟩=some (.bool u.hq):=j4.uu.cell 7;have c2:w4.cell? ⟨w.heap.size,3,none⟩=some (.string (st u.qu)):=j4.uu.cell 3;go_wp2_with fail;refine(q18 u.hq _ _ [63] u.qu [] _ (j4.ac.cell 0) (j4.ac.frozen 0) (by simp at l2 l3 l4 ⊢;omega)).mono ?_;rintro e w5 ⟨rfl,hw5⟩;have j5:=j4.step hw5;have l5:=z8l u.hq (jput true (jput u.ha (jput u.hs [] [] u.sch [58]) [47,47] u.au []) [] u.pa []) [63] u.qu [];clear j4 hw5 c1 c2;have c1:w5.cell? ⟨w.heap.size,8,none⟩=some (.bool u.hf):=j5.uu.cell 8;have c2:w5.cell? ⟨w.heap.size,4,none⟩=some (.string (st u.fr)):=j5.uu.cell 4;go_wp2_with fail;refine(q18 u.hf _ _ [35] u.fr [] _ (j5.ac.cell 0) (j5.ac.frozen 0) (by simp at l2 l3 l4 l5 ⊢;omega)).mono ?_;rintro e w6 ⟨rfl,hw6⟩;have j6:=j5.step hw6;have l6:=z8l u.hf (jput u.hq (jput true (jput u.ha (jput u.hs [] [] u.sch [58]) [47,47] u.au []) [] u.pa []) [63] u.qu []) [35] u.fr [];clear j5 hw6 c1 c2;have hj:=j5z u;obtain⟨acc,hacc⟩:∃ acc,acc=jput u.hf (jput u.hq (jput true (jput u.ha (jput u.hs [] [] u.sch [58]) [47,47] u.au []) [] u.pa []) [63] u.qu []) [35] u.fr []:=⟨_,rfl⟩;rw[← hacc] at j6 l6 hj;have hlen:(st acc).size≤67108864:=by simp[Z4] at l2 l3 l4 l5 l6 ⊢;omega
 have HJ:=Ld hj;clear hacc l2 l3 l4 l5 l6 hj;have hbl:=j6.below;have s0:w6.cell? ⟨w.heap.size + 1,0,none⟩=some (.string (st acc)):=j6.ac.cell 0;have d0:w6.cell? ⟨w.heap.size,0,none⟩=some (.string (st u.sch)):=j6.uu.cell 0;have d1:w6.cell? ⟨w.heap.size,1,none⟩=some (.string (st u.au)):=j6.uu.cell 1;have d2:w6.cell? ⟨w.heap.size,2,none⟩=some (.string (st u.pa)):=j6.uu.cell 2;have d3:w6.cell? ⟨w.heap.size,3,none⟩=some (.string (st u.qu)):=j6.uu.cell 3;have d4:w6.cell? ⟨w.heap.size,4,none⟩=some (.string (st u.fr)):=j6.uu.cell 4;have d5:w6.cell? ⟨w.heap.size,5,none⟩=some (.bool u.hs):=j6.uu.cell 5;have d6:w6.cell? ⟨w.heap.size,6,none⟩=some (.bool u.ha):=j6.uu.cell 6;have d7:w6.cell? ⟨w.heap.size,7,none⟩=some (.bool u.hq):=j6.uu.cell 7;have d8:w6.cell? ⟨w.heap.size,8,none⟩=some (.bool u.hf):=j6.uu.cell 8;have hlt:=j6.ac.lt;clear j6;go_wp2_with fail;have heq:=fun W=>q6y (Mg.split (st acc).data.toList) u W
 have hgd:=fun x y W=>q55 (Mg.split (st acc).data.toList) u x y W
 go_region_held3 (fun w'=>w'.cell? ⟨w.heap.size + 1,0,none⟩=some (.string (st acc))∧w'.cell? ⟨w.heap.size,0,none⟩=some (.string (st u.sch))∧w'.cell? ⟨w.heap.size,1,none⟩=some (.string (st u.au))∧w'.cell? ⟨w.heap.size,2,none⟩=some (.string (st u.pa))∧w'.cell? ⟨w.heap.size,3,none⟩=some (.string (st u.qu))∧w'.cell? ⟨w.heap.size,4,none⟩=some (.string (st u.fr))∧w'.cell? ⟨w.heap.size,5,none⟩=some (.bool u.hs)∧w'.cell? ⟨w.heap.size,6,none⟩=some (.bool u.ha)∧w'.cell? ⟨w.heap.size,7,none⟩=some (.bool u.hq)∧w'.cell? ⟨w.heap.size,8,none⟩=some (.bool u.hf)) (first | exact⟨s0,d0,d1,d2,d3,d4,d5,d6,d7,d8⟩ | exact jkeep (wk:=w6.drew) ⟨s0,d0,d1,d2,d3,d4,d5,d6,d7,d8⟩ hb7) (first | (go_at_call 122;refine(q1p _ _ hlen).mono ?_;rintro e w7 ⟨rfl,hb7⟩))
 all_goals
  go_wp2_with fail;go_ret2;refine⟨?_,hbl.drew.trans (hb7.mono (by have:=hbl.size;exact this))⟩;rw[← HJ.out];show _=Ending.returned (.tuple #[.string (st acc),.bool (Mg.split (Mg.join u) == u)]);rw[← HJ.out];rfl
end Go.Proofs.YtjonkbdldebkiaaGreatDoor
namespace Mk
theorem j3k (n:Nat):∀ m r,r.length≤n→r.length≤m→takeN n r=takeN m r:=by
 induction n with
 | zero =>
  intro m r h _;have:r=[]:=List.eq_nil_of_length_eq_zero (by omega);subst this
  cases m <;> rfl
 | succ n ih =>
  intro m r h hm
  cases r with
  | nil=>cases m <;> rfl
  | cons c t =>
   rw[List.length_cons] at h hm
   cases m with
   | zero=>omega
   | succ m =>
    simp only [takeN];have e1:((c :: t).drop (max 1 (sign (c :: t)).2.1)).length≤t.length:=by rw[List.length_drop,List.length_cons];omega
    rw[ih m _ (by omega) (by omega),ih m t (by omega) (by omega)]
theorem take_nil:take []=([],true):=rfl
theorem j3l (c:UInt8) (t:Bs) (h:c ≠ 38):take (c :: t)=(c :: (take t).1,(take t).2):=by
 show takeN (t.length + 1) (c :: t)=_;simp only [takeN];rw[if_neg h];rfl
theorem take_amp (t:Bs):take (38 :: t)=((sign (38 :: t)).1++(take ((38 :: t).drop (max 1 (sign (38 :: t)).2.1))).1,(sign (38 :: t)).2.2 && (take ((38 :: t).drop (max 1 (sign (38 :: t)).2.1))).2):=by
 show takeN (t.length + 1) (38 :: t)=_;simp only [takeN];rw[if_pos trivial];have e1:((38 :: t).drop (max 1 (sign (38 :: t)).2.1)).length≤t.length:=by rw[List.length_drop,List.length_cons];omega
 rw[j3k t.length _ _ e1 (Lr)];rfl
theorem j09 (p:Bs):∀ r,(38:UInt8) ∉ p→take (p++r)=(p++(take r).1,(take r).2):=by
 induction p with
 | nil=>intro r _;rfl
 | cons c t ih =>
  intro r h;rw[List.mem_cons,not_or] at h;rw[List.cons_append,j3l c _ (fun e=>h.1 e.symm),ih r h.2];rfl
theorem j0h (p:Nat):(utf8 p).length≤4:=by
 unfold utf8
 split
 ·simp
 split
 ·simp
 split
 ·simp
 ·simp
theorem q6s {p l:Bs} (h:Mg.pre p l=true):p.length≤l.length:=by
 have h1:l.take p.length=p:=by simpa [Mg.pre] using h
 have:=congrArg List.length h1;rw[List.length_take] at this;omega
theorem j2y (l:Bs):(sign l).1.length≤4∧((sign l).2.1≤l.length):=by
 have hna:∀ c n,named l=some (c,n)→n≤l.length:=by
  intro c n e;unfold named at e
  split at e
  ·rename_i h;have:=q6s h;injection e with e;injection e with e1 e2;simp at this;omega
  split at e
  ·rename_i h;have:=q6s h;injection e with e;injection e with e1 e2;simp at this;omega
  split at e
  ·rename_i h;have:=q6s h;injection e with e;injection e with e1 e2;simp at this;omega
  split at e
  ·rename_i h;have:=q6s h;injection e with e;injection e with e1 e2;simp at this;omega
  split at e
  ·rename_i h;have:=q6s h;injection e with e;injection e with e1 e2;simp at this;omega
  ·cases e
 have hnu:∀ p n,numbered l=some (p,n)→n≤l.length:=by
  intro p n e;have hat:∀ x y z,numAt x y z l=some (p,n)→n≤l.length:=by
   intro x y z h;unfold numAt at h;simp only at h
   split at h
   ·cases h
   split at h
   ·rename_i h2
    injection h with h;injection h with h1 h3;have h4:(l.drop z).drop ((l.drop z).takeWhile (z04 x)).length ≠ []:=by intro e;rw[e] at h2;cases h2
    have h5:=List.length_pos_iff.2 h4;rw[List.length_drop,List.length_drop] at h5;omega
   ·cases h
  unfold numbered at e
  split at e
  ·exact hat _ _ _ e
  split at e
  ·exact hat _ _ _ e
  ·cases e
 unfold sign
 cases ha:named l with
 | some x=>exact⟨by simp,hna x.1 x.2 ha⟩
 | none =>
  simp only
  cases hb:numbered l with
  | none=>exact⟨by simp,Nat.zero_le _⟩
  | some x =>
   simp only
   split
   ·exact⟨j0h _,hnu x.1 x.2 hb⟩
   ·exact⟨by simp,hnu x.1 x.2 hb⟩
end Mk
namespace Go.Proofs.YtjonkbdldebkiaaGreatDoor
open Go.Proofs.Tryz Go.RowKit

def strl:Value→Nat | .string b=>b.size | _=>0
theorem z9g (i:List UInt8):strl (.string (st i))=i.length:=rfl
theorem j1x (c:UInt8) (l:List UInt8) :
  (Lib.indexByte l c = -1∧c ∉ l) ∨
  ∃ k t,l=l.take k++c :: t∧Lib.indexByte l c=(k:Nat)∧c ∉ l.take k∧k≤l.length∧l.drop (k + 1)=t:=by
 induction l with
 | nil=>exact .inl ⟨rfl,by simp⟩
 | cons b l ih =>
  rw[Lib.indexByte]
  by_cases hc:b=c
  ·subst hc
   exact .inr ⟨0,l,by simp,by simp,by simp,by simp,by simp⟩
  ·have hb:(b == c)=false:=beq_eq_false_iff_ne.2 hc
   rw[hb]
   rcases ih with ⟨h1,h2⟩ | ⟨k,t,h1,h2,h3,h4,h5⟩
   ·left
    rw[h1];exact⟨by simp,by rw[List.mem_cons,not_or];exact⟨fun e=>hc e.symm,h2⟩⟩
   ·right
    refine⟨k + 1,t,by rw[List.take_succ_cons,List.cons_append,← h1],?_,?_,by simp;omega,by simpa using h5⟩
    ·rw[h2]
     have:((k:Int) == -1)=false:=by rw[beq_eq_false_iff_ne];omega
     rw[this];simp
    ·rw[List.take_succ_cons,List.mem_cons,not_or]
     exact⟨fun e=>hc e.symm,h3⟩
theorem z4c {T e:TypeId} {B b:Nat} {bs:List Value} {w w':World} (h:Lib.IsBuilder T e B b bs w) (hk:∀ k,k < w.heap.size→w'.heap[k]? = w.heap[k]?):Lib.IsBuilder T e B b bs w':=by
 have key:∀ p,Lib.BuilderAt T e B b p bs w→Lib.BuilderAt T e B b p bs w':=by
  intro p h;have hlt:=h.lt;obtain⟨hB,v,hb,hown,hne⟩:=h;refine⟨hB,v,(hk b hlt).trans hb,⟨hown.1,?_⟩,hne⟩
  rcases hown.2 with h0 | ⟨g,cap,cur,hv,hbg,hg,h4⟩
  ·exact .inl h0
  ·have hgl:g < w.heap.size:=by
    rcases Nat.lt_or_ge g w.heap.size with h' | h'
    ·exact h'
    ·simp[Array.getElem?_eq_none h'] at hg
   exact .inr ⟨g,cap,cur,hv,hbg,(hk g hgl).trans hg,h4⟩
 exact h.imp (key _) (key _)
theorem cut_amp (l:List UInt8):(Lib.cut l [38]=(l,[],false)∧(38:UInt8) ∉ l)∨∃ p t,l=p++38 :: t∧Lib.cut l [38]=(p,t,true)∧(38:UInt8) ∉ p:=by
 unfold Lib.cut;rw[Lib.index_one]
 rcases j1x 38 l with ⟨h1,h2⟩ | ⟨k,t,h1,h2,h3,h4,h5⟩
 ·left;rw[h1];exact⟨rfl,h2⟩
 ·right
  refine⟨l.take k,t,h1,?_,h3⟩;rw[h2,if_pos (by omega)];simp only [Int.toNat_natCast,List.length_singleton];rw[h5]

theorem q0v (s:ByteArray) (w:World) (hs:s.size≤1048576) (hg:Gl w) :
  Calls prog 187 #[.string s] w fun e w'=>e=.returned (.tuple #[.string (st (Mk.take s.data.toList).1),.bool (Mk.take s.data.toList).2])∧Below w.heap.size w w':=by
 have hbu:Lib.IsBuilder 96 5 w.heap.size w.heap.size (Lib.byteCells []) (w.alloc (.cells #[.pointer none,.slice none 0 0] 96)) :=
  .inl ⟨Lr,.slice none 0 0,heap_alloc_new w _,World.ownsRow_nil _ _ _ _,by simp[Value.ownBlock]⟩
 have hl0:=(Below.refl _ w).alloc (Lr) (.cells #[.pointer none,.slice none 0 0] 96);have hlt:=hg.lt;go_enter func187,ntmps187;go_wp2_with fail;change Code.wp _ _ _ _ (w.alloc (.cells #[.pointer none,.slice none 0 0] 96));generalize w.alloc (.cells #[.pointer none,.slice none 0 0] 96)=w0 at hbu hl0 ⊢
 go_loopw [0,5] (fun a c wr=>∃ (r o:List UInt8) (ab:Bool),a=.string (st r)∧c=.bool ab∧Hid (Lib.IsBuilder 96 5 w.heap.size w.heap.size (Lib.byteCells o) wr)∧Hid (Below w.heap.size w wr)∧o.length + 4 * r.length≤4 * s.size∧Hid ((o++(Mk.take r).1,ab && (Mk.take r).2)=Mk.take s.data.toList)) (fun a _ _=>strl a)
 case atStart=>exact⟨s.data.toList,[],true,rfl,rfl,hbu,hl0,by simp,by show _=_;simp⟩
 case round =>
  obtain⟨r,o,ab,rfl,rfl,BU,BL,hlen,hx⟩:=hrel;have hst:∀ l,(st l).toList=l:=fun l=>Lib.toList_data _
  have hsz:=BL.out.size
  by_cases hr:r=[]
  ·subst hr
   have FIN:Hid (Mk.take s.data.toList=(o,ab)):=by show _=_;rw[← hx.out,Mk.take_nil];simp
   clear hx;go_wp2_with fail;refine(Tryz.Builder_String_any w.heap.size w.heap.size _ _ BU.out hsz).mono ?_;rintro e wz ⟨rfl,hbz⟩;have lz:=BL.out.trans hbz;clear hbz BU BL;go_wp2_with fail;go_ret2;exact⟨by rw[FIN.out];rfl,lz⟩
  have he:r.isEmpty=false:=by
   cases r with
   | nil=>exact absurd rfl hr
   | cons _ _=>rfl
  have hgr:=hg.below BL.out hlt;obtain⟨m,hm⟩:=hgr.ml;have hcut:=Tryz.strings_Cut (st r) (st [38]) m wr (by rw[Z4];omega) hm;rw[show (st r).data.toList=r from rfl,show (st [38]).data.toList=[38] from rfl] at hcut;have HCUT:=Ld hcut;have HG:=Ld hgr;clear hcut hm hgr hr
  rcases cut_amp r with ⟨hc,hno⟩ | ⟨p,q,hpq,hc,hno⟩
  ·have FIN:Hid (Mk.take s.data.toList=(o++r,ab)):=by
    show _=_;have h:=Mk.j09 r [] hno;rw[List.append_nil,Mk.take_nil] at h;rw[← hx.out,h];simp
   rw[hc] at HCUT;change Hid (Calls _ _ _ _ fun e w'=>e=.returned (.tuple #[.string (st r),.string (st []),.bool false])∧∃ n,w'=wr.drewN n) at HCUT;clear hx hc hno;go_wp2_with fail;refine HCUT.out.mono ?_;rintro e w1 ⟨rfl,n1,rfl⟩;have BU1:Hid (Lib.IsBuilder 96 5 w.heap.size w.heap.size (Lib.byteCells o) (wr.drewN n1)):=BU.out;go_wp2_with fail;refine(z1f w.heap.size w.heap.size _ (st r) _ BU1.out (by rw[Lib.byteCells_length,Z4];omega) hsz).mono ?_;rintro e w2 ⟨rfl,hb2,hl2⟩;have BU2:Hid (Lib.IsBuilder 96 5 w.heap.size w.heap.size (Lib.byteCells (o++r)) w2):=by
    show Lib.IsBuilder _ _ _ _ _ _;rw[Lib.byteCells_append];exact .inr hb2
   have BL2:Hid (Below w.heap.size w w2):=(below_drewN BL.out n1).trans hl2;clear hb2 hl2 BU1 BU BL;have hsz2:=BL2.out.size;go_wp2_with fail;refine(Tryz.Builder_String_any w.heap.size w.heap.size _ _ BU2.out hsz2).mono ?_;rintro e wz ⟨rfl,hbz⟩;have lz:=BL2.out.trans hbz;clear hbz BU2 BL2;go_wp2_with fail;go_ret2;exact⟨by rw[FIN.out];rfl,lz⟩
  ·obtain⟨g1,g2⟩:=Mk.j2y (38 :: q)
   have hpl:r.length=p.length + (q.length + 1):=by rw[hpq,List.length_append,List.length_cons]
   obtain⟨x,hxe⟩:∃ x,Mk.sign (38 :: q)=x:=⟨_,rfl⟩;have HX:Hid ((o++p++x.1++(Mk.take ((38 :: q).drop (max 1 x.2.1))).1,(ab && x.2.2) && (Mk.take ((38 :: q).drop (max 1 x.2.1))).2)=Mk.take s.data.toList):=by
    show _=_;rw[← hx.out,hpq,Mk.j09 p _ hno,Mk.take_amp,hxe];simp[Bool.and_assoc]
   have hsg:=fun W hG=>esc_sign (st (38 :: q)) W (by rw[Z4,List.length_cons];omega) hG
   rw[show (st (38 :: q)).data.toList=38 :: q from rfl,hxe] at hsg;rw[hxe,List.length_cons] at g2;rw[hxe] at g1;have HSG:=Ld hsg;rw[hc] at HCUT;change Hid (Calls _ _ _ _ fun e w'=>e=.returned (.tuple #[.string (st p),.string (st q),.bool true])∧∃ n,w'=wr.drewN n) at HCUT;clear hx hc hno hpq hxe hsg;go_wp2_with fail;refine HCUT.out.mono ?_;rintro e w1 ⟨rfl,n1,rfl⟩;have BU1:Hid (Lib.IsBuilder 96 5 w.heap.size w.heap.size (Lib.byteCells o) (wr.drewN n1)):=BU.out;go_wp2_with fail;refine(z1f w.heap.size w.heap.size _ (st p) _ BU1.out (by rw[Lib.byteCells_length,Z4];omega) hsz).mono ?_;rintro e w2 ⟨rfl,hb2,hl2⟩;have BU2:Hid (Lib.IsBuilder 96 5 w.heap.size w.heap.size (Lib.byteCells (o++p)) w2):=by
    show Lib.IsBuilder _ _ _ _ _ _;rw[Lib.byteCells_append];exact .inr hb2
   have BL2:Hid (Below w.heap.size w w2):=(below_drewN BL.out n1).trans hl2;clear hb2 hl2 BU1 BU BL;have hsz2:=BL2.out.size;have hcz:¬ 9223372036854775807 < (⟨#[38]⟩:ByteArray).size + (st q).size:=by rw[Z4,show (⟨#[38]⟩:ByteArray).size=1 from rfl];omega
   go_wp2_with fail;rw[show (⟨#[38]⟩:ByteArray)++st q=st (38 :: q) from z3m (st [38]) (st q)];refine(HSG.out _ (hg.below BL2.out hlt)).mono ?_;rintro e w3 ⟨rfl,hb3⟩;obtain⟨x1,n,right⟩:=x;have BU3:Hid (Lib.IsBuilder 96 5 w.heap.size w.heap.size (Lib.byteCells (o++p)) w3):=z4c BU2.out hb3.block;have BL3:Hid (Below w.heap.size w w3):=BL2.out.trans (hb3.mono hsz2);clear hb3 BU2 BL2 hsz2 HSG HCUT hcz;have hsz3:=BL3.out.size;have g3:n≤q.length + 1:=g2;have g4:x1.length≤4:=g1;unfold signV
   cases ab
   all_goals
    go_wp2_with fail;refine(z1f w.heap.size w.heap.size _ (st x1) _ BU3.out (by rw[Lib.byteCells_length,Z4,List.length_append];omega) hsz3).mono ?_;rintro e w4 ⟨rfl,hb4,hl4⟩;have BU4:Hid (Lib.IsBuilder 96 5 w.heap.size w.heap.size (Lib.byteCells (o++p++x1)) w4):=by
     show Lib.IsBuilder _ _ _ _ _ _;rw[Lib.byteCells_append];exact .inr hb4
    have BL4:Hid (Below w.heap.size w w4):=BL3.out.trans hl4;clear hb4 hl4;have hq1:((n:Int) - 1)≤(st q).size:=by rw[Z4];omega
    by_cases hn0:n=0
    ·subst hn0
     go_wp2_with fail;go_roundw
     case rel=>exact⟨q,o++p++x1,_,by rw[z0p];rfl,rfl,BU4,BL4,by rw[List.length_append,List.length_append];omega,HX⟩
     case measure =>
      have hz:(st r).size=p.length + (q.length + 1):=hpl
      first
       | (rw[z0p,z9g,z9g,z1o];rw[List.length_drop];omega)
       | (rw[z9g,z9g];omega)
    ·obtain⟨j,rfl⟩:∃ j,n=j + 1:=⟨n - 1,by omega⟩
     have hj:(j:Int)≤(st q).size:=by rw[Z4];omega
     rw[show max 1 (j + 1)=j + 1 by omega] at HX;go_wp2_with fail;go_roundw
     case rel=>exact⟨q.drop j,o++p++x1,_,by rw[z0p];rfl,rfl,BU4,BL4,by rw[List.length_append,List.length_append,List.length_drop];omega,HX⟩
     case measure =>
      rw[z0p,z9g,z9g,z1o,List.length_drop];omega
end Go.Proofs.YtjonkbdldebkiaaGreatDoor
namespace Mk
def sepB (c:UInt8):Bool:=white c || c == 47
theorem dropWhile_le (q:UInt8→Bool) (l:Bs):(l.dropWhile q).length≤l.length:=(List.dropWhile_sublist q).length_le
theorem j3u {r v u:Bs} (h:valueOf r=some (v,u)):u.length≤r.length:=by
 have h0:=dropWhile_le white r;unfold valueOf at h
 split at h
 ·injection h with h;injection h with h1 h2;subst h2;exact Nat.zero_le _
 ·rename_i q t hd
  rw[hd] at h0
  split at h
  ·split at h
   ·cases h
   ·rename_i x u' hu
    injection h with h;injection h with h1 h2;subst h2;have:=dropWhile_le (· != q) t;rw[hu] at this;simp at this h0;omega
  ·injection h with h;injection h with h1 h2;subst h2
   exact Nat.le_trans (dropWhile_le _ _) h0
theorem q7e {r v u:Bs} (h:valueOf r=some (v,u)):v.length≤r.length:=by
 have h0:=dropWhile_le white r;unfold valueOf at h
 split at h
 ·injection h with h;injection h with h1 h2;subst h1;exact Nat.zero_le _
 ·rename_i q t hd
  rw[hd] at h0
  split at h
  ·split at h
   ·cases h
   ·injection h with h;injection h with h1 h2;subst h1
    have:=z2r (· != q) t;simp at this h0 ⊢;omega
  ·injection h with h;injection h with h1 h2;subst h1
   exact Nat.le_trans (z2r _ _) h0
def z4w (r3:Bs):Option (Bs × Bs):=if Mg.isAt 61 r3 then (valueOf r3.tail).map (fun x=>((take x.1).1,x.2)) else some ([],r3)
theorem q1f {r v u:Bs} (h:z4w r=some (v,u)):u.length≤r.length:=by
 unfold z4w at h
 split at h
 ·cases hv:valueOf r.tail with
  | none=>rw[hv] at h;cases h
  | some x =>
   rw[hv] at h;injection h with h;have h1:x.2=u:=congrArg Prod.snd h;have h2:=j3u (v:=x.1) (u:=x.2) hv;rw[h1,List.length_tail] at h2;omega
 ·injection h with h;injection h with h1 h2;subst h2;exact Lr
def q1d (nm v:Bs) (out:List At):List At:=if isName nm && !z4m out nm then out++[⟨nm,v⟩] else out
theorem z5h (n:Nat) (r:Bs) (out:List At):z0o (n + 1) r out=(match r.dropWhile sepB with
  | []=>none
  | c :: t=>if c=62 then some (out,t) else
   match z4w ((t.dropWhile z0j).dropWhile white) with
   | none=>none
   | some (v,r4)=>z0o n r4 (q1d (Mg.fold (c :: t.takeWhile z0j)) v out)):=by
 rfl
theorem z5g:∀ (n m:Nat) (r:Bs) (out:List At),r.length < n→r.length < m→z0o n r out=z0o m r out:=by
 intro n
 induction n with
 | zero=>intro m r out h _;omega
 | succ n ih =>
  intro m r out h hm
  cases m with
  | zero=>omega
  | succ m =>
   rw[z5h,z5h];have h0:=dropWhile_le sepB r
   cases hd:r.dropWhile sepB with
   | nil=>rfl
   | cons c t =>
    rw[hd,List.length_cons] at h0;simp only
    split
    ·rfl
    cases hr:z4w ((t.dropWhile z0j).dropWhile white) with
    | none=>rfl
    | some x =>
     obtain⟨v,r4⟩:=x;have h1:=q1f hr;have h2:=dropWhile_le white (t.dropWhile z0j);have h3:=dropWhile_le z0j t;exact ih m r4 _ (by omega) (by omega)
def q0k (r:Bs) (out:List At):Option (List At × Bs):=z0o (r.length + 1) r out
theorem j4j (r:Bs) (out:List At):q0k r out=(match r.dropWhile sepB with
  | []=>none
  | c :: t=>if c=62 then some (out,t) else
   match z4w ((t.dropWhile z0j).dropWhile white) with
   | none=>none
   | some (v,r4)=>q0k r4 (q1d (Mg.fold (c :: t.takeWhile z0j)) v out)):=by
 unfold q0k;rw[z5h];have h0:=dropWhile_le sepB r
 cases hd:r.dropWhile sepB with
 | nil=>rfl
 | cons c t =>
  rw[hd,List.length_cons] at h0;simp only
  split
  ·rfl
  cases hr:z4w ((t.dropWhile z0j).dropWhile white) with
  | none=>rfl
  | some x =>
   obtain⟨v,r4⟩:=x;have h1:=q1f hr;have h2:=dropWhile_le white (t.dropWhile z0j);have h3:=dropWhile_le z0j t;exact z5g _ _ r4 _ (by omega) (by omega)
end Mk
namespace Go.Proofs.YtjonkbdldebkiaaGreatDoor
open Go.Proofs.Tryz Go.RowKit
theorem q7r (P:Nat) (nm:List UInt8) (l:List Mk.At) (w:World) (hP:P < w.heap.size) (hc:w.cell? ⟨P,0,none⟩=some (.string (st nm))):q5m 294 #[.pointer (some ⟨P,0,none⟩)] (fun a=>a.n == nm) l w:=by
 intro w1 hb a _;have c0:w1.cell? ⟨P,0,none⟩=some (.string (st nm)):=(hb.cell (p:=⟨P,0,none⟩) hP).trans hc;have hP1:P < w1.heap.size:=Nat.lt_of_lt_of_le hP hb.size;unfold atV;go_enter func294,ntmps294;go_wp2_with fail;go_ret;exact⟨Z8 (by rw[show (st a.n).toList=a.n from Lib.toList_data _,show (st nm).toList=nm from Lib.toList_data _]),(Below.refl _ w1).alloc (Lr) _⟩
theorem j5l (args:Array Value) (w:World):(callFunc 294 args).run prog w=.ok (.enter 294 args) w:=Z7 func294 (by kernel_rfl) rfl _ _
theorem Gl.ap {S:Nat→Prop} {w w':World} (h:Gl w) (ha:Ap S w w') (h0:¬ S 0) (h1:¬ S 4):Gl w':=by
 have hlt:=h.lt;obtain⟨m,hm⟩:=h.ml;obtain⟨ev,he,hv⟩:=h.es;exact⟨⟨m,(cell_of_block (ha.block 0 (by omega) h0) 0).trans hm⟩,ev,(cell_of_block (ha.block 4 hlt h1) 0).trans he,hv⟩
theorem z2g {S:Nat→Prop} {w w':World} {B size n:Nat} {e:TypeId} {v:Value} {xs:List Value} (h:w.ownsRow B e size v n xs) (ha:Ap S w w') (hS:∀ g,B≤g→¬ S g):w'.ownsRow B e size v n xs:=by
 refine⟨h.1,h.2.imp id ?_⟩;rintro ⟨g,cap,cur,h1,h2,h3,h4⟩;have hlt:g < w.heap.size:=by
  rcases Nat.lt_or_ge g w.heap.size with h' | h'
  ·exact h'
  ·rw[Array.getElem?_eq_none h'] at h3;cases h3
 exact⟨g,cap,cur,h1,h2,(ha.block g hlt (hS g h2)).trans h3,h4⟩
theorem Tryz.infoAttr:(prog.info? 56).map (fun i=>(i.zero,i.size,i.bytes))=some (some (.agg #[.string ⟨#[]⟩,.string ⟨#[]⟩]),2,32):=by kernel_rfl
theorem z0h (w:World) (t:TypeId) (cs:Array Value) (j:Nat) (u:Value) (h:cs.toList[j]? = some u):(w.alloc (.cells cs t)).cell? ((⟨w.heap.size,0,none⟩:Addr).add j)=some u:=by
 have e1:(⟨w.heap.size,0,none⟩:Addr).add j=⟨w.heap.size,j,none⟩:=by unfold Addr.add;split <;> simp_all
 rw[e1,Blk.cell (Blk.new w t cs) j,← h];simp
theorem j5v (l:List UInt8):Mk.z8j (fun c=>c == 61) l=Mg.isAt 61 l:=by cases l <;> rfl
theorem Blk.ap {S:Nat→Prop} {w w':World} {g:Nat} {t:TypeId} {cs:Array Value} (h:Blk w g t cs) (ha:Ap S w w') (hS:¬ S g):Blk w' g t cs:=(ha.block g h.lt hS).trans h
theorem Ap.setNew {S:Nat→Prop} {a b:World} (h:Ap S a b) {p:Addr} (hp:a.heap.size≤p.block) (v:Value):Ap S a (b.setCell p v) :=
 ⟨h.os,h.tape,h.output,by have:=h.size;simpa [World.setCell] using this,fun k hk hs=>(Below.heap_setCell b p v k (by omega)).trans (h.block k hk hs)⟩
section
variable {w : World} {R : Nat} {s : ByteArray} {k : Nat} {tx : List UInt8} {ov : Value}
theorem rd_attrs (hg:Gl w) (hR:4 < R) (h:Rd w R s k tx ov) (hk:k≤s.size) (hs:s.size≤1048576) :
  Calls prog 271 #[.pointer (some ⟨R,0,none⟩)] w fun e w' =>
   (Mk.z5i (s.data.toList.drop k)=none∧e=Gave∧(∃ j,Rd w' R s j tx ov)∧Ap (fun b=>b=R) w w') ∨
   ∃ l r j v,Mk.z5i (s.data.toList.drop k)=some (l,r)∧e=.returned v∧w'.ownsRow w.heap.size 56 2 v l.length (Y8 l)∧j≤s.size∧k < j∧l.length≤s.size∧r=s.data.toList.drop j∧Rd w' R s j tx ov∧Ap (fun b=>b=R) w w':=by
 have hRlt:=Blk.lt h;have hglt:=hg.lt;have hR0:¬ ((fun b=>b=R) 0):=by intro e;have e:(0:Nat)=R:=e;omega
 have hR1:¬ ((fun b=>b=R) 4):=by intro e;have e:(4:Nat)=R:=e;omega
 have hBR:∀ g,w.heap.size≤g→¬ ((fun b=>b=R) g):=by intro g hg' e;have e:g=R:=e;omega
 have HBR:=Ld hBR;clear hBR;go_enter func271,ntmps271;go_wp2_with fail
 go_loopw [3] (fun o wr=>∃ j out,k≤j∧j≤s.size∧out.length≤j∧Hid (Mk.z5i (s.data.toList.drop k)=Mk.q0k (s.data.toList.drop j) out)∧Hid (Rd wr R s j tx ov)∧Hid (Ap (fun b=>b=R) w wr)∧Hid (wr.ownsRow w.heap.size 56 2 o out.length (Y8 out))) (fun _ wr=>s.size - atOf wr R)
 case atStart=>exact⟨k,[],Lr,hk,Nat.zero_le _,rfl,h,Ap.refl _ _,World.ownsRow_nil _ _ _ _⟩
 case round =>
  obtain⟨j,out,hkj,hj,hol,HA,RD,AP,OW⟩:=hrel;have hatj:=RD.out.atOf;have HATJ:=Ld hatj;clear hatj;have hsz:=AP.out.size;have e1:=adv s j Mk.sepB;have l1:=z6d s j hj Mk.sepB;have HP:=Ld (z4o 289 #[] Mk.sepB j5i RD.out hj hs (fun w' _=>q7o w'));obtain⟨j1,hj1⟩:∃ j1,j1=j + ((s.data.toList.drop j).takeWhile Mk.sepB).length:=⟨_,rfl⟩;rw[← hj1] at e1 l1 HP;have hjj1:j≤j1:=by omega
  rw[Mk.j4j,← e1] at HA;clear e1 hj1
  rcases Nat.lt_or_ge j1 s.size with hlt | hge
  ·rw[z09 s j1 hlt] at HA
   obtain⟨c,hc⟩:∃ c:UInt8,s[j1]=c:=⟨_,rfl⟩;rw[hc] at HA;have HCC:=Ld hc;clear hc;simp only at HA;go_wp2_with fail;refine HP.out.mono ?_;rintro e w1 ⟨rfl,RD1,MV1⟩;have AP1:=AP.out.trans MV1.ap;have hn:=z9d RD1 hlt hs;rw[HCC.out] at hn;have hb:(c.toNat:Int)≤255:=by have:=c.toNat_lt;omega
   by_cases h62:c=62
   ·subst h62
    rw[if_pos rfl] at HA;have HN:=Ld hn;clear hn;go_wp2_with fail;refine HN.out.mono ?_;rintro e w2 ⟨rfl,RD2,MV2⟩;have OW2:=Ld (z2g (z2g OW.out MV1.ap HBR.out) MV2.ap HBR.out);have AP2:=Ld (AP1.trans MV2.ap);go_wp2_with fail;go_ret;exact .inr ⟨out,_,j1 + 1,_,HA.out,rfl,OW2.out,hlt,by omega,by omega,rfl,RD2,AP2.out⟩
   ·have hne:((c.toNat:Int) == 62)=false:=by rw[beq_eq_false_iff_ne];intro e;exact h62 (UInt8.toNat_inj.1 (by show c.toNat=62;omega))
    rw[if_neg h62] at HA;have HN:=Ld hn;clear hn;go_wp2_with fail;refine HN.out.mono ?_;rintro e w2 ⟨rfl,RD2,MV2⟩;have d1:=RD2.c1;go_wp2_with fail;have e2:=adv s (j1 + 1) Mk.z0j;have l2:=z6d s (j1 + 1) hlt Mk.z0j;have hp2:=z4o 291 #[] Mk.z0j j5j RD2 hlt hs (fun w' _=>q7p w');obtain⟨j2,hj2⟩:∃ j2,j2=j1 + 1 + ((s.data.toList.drop (j1 + 1)).takeWhile Mk.z0j).length:=⟨_,rfl⟩;have hnm:(s.extract j1 j2).data.toList=c :: (s.data.toList.drop (j1 + 1)).takeWhile Mk.z0j:=by
     rw[Y1,z1o,z09 s j1 hlt,HCC.out,show j2 - j1=((s.data.toList.drop (j1 + 1)).takeWhile Mk.z0j).length + 1 by omega,List.take_succ_cons]
     congr 1
     exact(List.prefix_iff_eq_take.1 (List.takeWhile_prefix _)).symm
    rw[← hj2] at e2 l2 hp2;have hjj2:j1 + 1≤j2:=by omega
    rw[← e2,← hnm] at HA;have HNM:=Ld hnm;clear e2 hj2 hnm HP HN;refine hp2.mono ?_;rintro e w3 ⟨rfl,RD3,MV3⟩;have AP3:=(AP1.trans MV2.ap).trans MV3.ap;have OW3:=Ld (z2g (z2g (z2g OW.out MV1.ap HBR.out) MV2.ap HBR.out) MV3.ap HBR.out);clear OW;have hlt3:R < w3.heap.size:=Blk.lt RD3;have hsz3:w.heap.size≤w3.heap.size:=AP3.size;clear RD1 RD2 MV1 MV2 MV3 AP1 hp2 d1;have d0:=RD3.c0;have d1:=RD3.c1;have hle1:(j1:Int)≤j2:=by omega
    have hle2:(j2:Int)≤s.size:=by omega
    have hfo:=fun W=>q1b (s.extract j1 j2) W (by rw[← bs_len,Y1,z1o,List.length_take,List.length_drop,bs_len];omega)
    have HFO:=Ld hfo;clear hfo;go_upto_region 7 with fail;obtain⟨nm,hnm⟩:∃ nm,Mg.fold (s.extract j1 j2).data.toList=nm:=⟨_,rfl⟩;rw[hnm] at HA HFO;have hnml:nm.length≤1048576:=by
     have:=HNM.out;rw[← hnm,Mg.fold,List.length_map,Y1,z1o,List.length_take,List.length_drop,bs_len];omega
    clear HNM hnm
    go_cut [5] (fun p wx=>∃ P,p=.pointer (some ⟨P,0,none⟩)∧w.heap.size≤P∧u3.ownBlock ≠ some P∧Hid (wx.ownsRow w.heap.size 56 2 u3 out.length (Y8 out))∧Hid (Blk wx P 56 #[.string (st nm),.string ⟨#[]⟩])∧Hid (Ap (fun b=>b=R) w wx)∧Hid (Rd wx R s j2 tx ov))
    case first =>
     have hk2:∀ W,Below (R + 1) w3.drew W→W.cell? ⟨R,0,none⟩=some (.string s)∧W.cell? ⟨R,1,none⟩=some (.int .i64 j2):=fun W hW=>⟨(hW.cell (p:=⟨R,0,none⟩) (Nat.lt_succ_self R)).trans d0,(hW.cell (p:=⟨R,1,none⟩) (Nat.lt_succ_self R)).trans d1⟩
     have hlt4:R + 1≤w3.drew.heap.size:=hlt3;have HK2:=Ld hk2;clear hk2
     go_region_held3 (fun w'=>w'.cell? ⟨R,0,none⟩=some (.string s)∧w'.cell? ⟨R,1,none⟩=some (.int .i64 j2)) (first
      | exact HK2.out _ (Below.refl _ _)
      | exact HK2.out _ (hb7.mono hlt4)
      | exact HK2.out _ ((hb7.mono hlt4).alloc (Nat.le_trans hlt4 hb7.size) _)
      | exact HK2.out _ ((Below.refl _ _).alloc hlt4 _)
      | exact HK2.out _ (((Below.refl _ _).alloc hlt4 _).trans (hb7.mono (Nat.le_trans hlt4 (by simp))))
      | exact HK2.out _ (((((Below.refl _ _).alloc hlt4 _).trans (hb7.mono (Nat.le_trans hlt4 (by simp)))).setCell (p:=⟨w3.heap.size,0,none⟩) hlt4 _).setCell (p:=⟨w3.heap.size,1,none⟩) hlt4 _)
      | fail "NO KEEP") (first | (go_at_call 269; refine (HFO.out _).mono ?_; rintro e w7 ⟨rfl, hb7⟩; (try have n0 : w7.cell? ⟨w3.heap.size, 0, none⟩ = some (.string ⟨#[]⟩) := (hb7.cell (p := ⟨w3.heap.size, 0, none⟩) (by simp)).trans (Blk.cell (Blk.new w3.drew _ _) 0)); (try have n1 : w7.cell? ⟨w3.heap.size, 1, none⟩ = some (.string ⟨#[]⟩) := (hb7.cell (p := ⟨w3.heap.size, 1, none⟩) (by simp)).trans (Blk.cell (Blk.new w3.drew _ _) 1)); (try have nf0 : w7.frozen? ⟨w3.heap.size, 0, none⟩ = false := (hb7.frozen (p := ⟨w3.heap.size, 0, none⟩) (by simp)).trans (Blk.frozen (Blk.new w3.drew 56 #[.string ⟨#[]⟩, .string ⟨#[]⟩]) 0)); (try have nf1 : w7.frozen? ⟨w3.heap.size, 1, none⟩ = false := (hb7.frozen (p := ⟨w3.heap.size, 1, none⟩) (by simp)).trans (Blk.frozen (Blk.new w3.drew 56 #[.string ⟨#[]⟩, .string ⟨#[]⟩]) 1))))
     ·have a7:Ap (fun b=>b=R) w w7:=(AP3.drew).trans (Ap.of_below hb7)
      have r7:Rd w7 R s j2 tx ov:=(hb7.block R hlt3).trans RD3;have r8:w.heap.size≤w7.heap.size:=a7.size;have a8:Ap (fun b=>b=R) w3 w7:=((Ap.refl _ w3).drew).trans (Ap.of_below hb7);have ow8:=z2g OW3.out a8 HBR.out;have ob8:u3.ownBlock ≠ some w7.heap.size:=fun e=>by have:=(ow8.lt _ e).2;omega
      have ow9:=Ld (z2g ow8 ((Ap.refl (fun b=>b=R) w7).alloc (.cells #[.string (st nm),.string ⟨#[]⟩] 56)) HBR.out);have ob8:=Ld ob8;clear ow8;go_wp2_with fail;go_meet
      case rel=>exact⟨w7.heap.size,rfl,r8,ob8.out,ow9,Blk.new w7 _ _,a7.alloc _,Blk.alloc r7 _⟩
     ·have a7:Ap (fun b=>b=R) w w7:=((AP3.alloc (.cells #[.string ⟨#[]⟩,.string ⟨#[]⟩] 56)).drew).trans (Ap.of_below hb7)
      have r7:Rd w7 R s j2 tx ov:=(hb7.block R (by simp;omega)).trans (Blk.alloc RD3 (.cells #[.string ⟨#[]⟩,.string ⟨#[]⟩] 56));have b7:Blk w7 w3.heap.size 56 #[.string ⟨#[]⟩,.string ⟨#[]⟩]:=(hb7.block w3.heap.size (by simp)).trans (Blk.new w3 _ _);have hne3:R ≠ w3.heap.size:=by omega
      have a8:Ap (fun b=>b=R) w3 w7:=(((Ap.refl _ w3).alloc (.cells #[.string ⟨#[]⟩,.string ⟨#[]⟩] 56)).drew).trans (Ap.of_below hb7);have ob8:u3.ownBlock ≠ some w3.heap.size:=fun e=>by have:=(OW3.out.lt _ e).2;omega
      have ow9:=Ld (ownsRow_setCell_other (ownsRow_setCell_other (z2g OW3.out a8 HBR.out) (a:=⟨w3.heap.size,0,none⟩) ob8 (.string (st nm))) (a:=⟨w3.heap.size,1,none⟩) ob8 (.string ⟨#[]⟩));have ob8:=Ld ob8;go_wp2_with fail;go_meet
      case rel=>exact⟨w3.heap.size,rfl,hsz3,ob8.out,ow9,(b7.set_ 0 _).set_ 1 _,(a7.setNew (p:=⟨w3.heap.size,0,none⟩) hsz3 _).setNew (p:=⟨w3.heap.size,1,none⟩) hsz3 _,Blk.far (Blk.far r7 (p:=⟨w3.heap.size,0,none⟩) hne3 _) (p:=⟨w3.heap.size,1,none⟩) hne3 _⟩
    case rest =>
     obtain⟨P,rfl,hP,hOP,OWx,PB,APx,RDx⟩:=hcut;have HOP:=Ld hOP;clear hOP OW3;have hPR:P ≠ R:=by omega
     have e3:=adv s j2 Mk.white;have l3:=z6d s j2 l2 Mk.white;have hp3:=z4o 158 #[] Mk.white q4d RDx.out l2 hs (fun w' _=>z8y w');obtain⟨j3,hj3⟩:∃ j3,j3=j2 + ((s.data.toList.drop j2).takeWhile Mk.white).length:=⟨_,rfl⟩;rw[← hj3] at e3 l3 hp3;have hjj3:j2≤j3:=by omega
     rw[← e3] at HA;have HP3:=Ld hp3;clear e3 hj3 hp3 d0 d1 RD3 AP3 hlt3 hsz3 hle1 hle2 HFO;go_wp2_with fail;refine HP3.out.mono ?_;rintro e w5 ⟨rfl,RD5,MV5⟩;have AP5:=Ld (APx.out.trans MV5.ap);have PB5:=Ld (PB.out.ap MV5.ap hPR);have RD5:=Ld RD5;have OW5:=Ld (z2g OWx.out MV5.ap HBR.out);clear OWx HP3 MV5 PB APx RDx;have hh:=fun n=>q53 292 #[] (fun c=>c == 61) j5k (RD5.out.drewN n) (fun m=>q7q _)
     rw[j5v] at hh;have HH:=Ld hh;clear hh;obtain⟨bb,hbb⟩:∃ bb,Mg.isAt 61 (s.data.toList.drop j3)=bb:=⟨_,rfl⟩;rw[hbb] at HH;have HBB:=Ld hbb;clear hbb;go_wp2_with fail;refine(HH.out 0).mono ?_;rintro e w6 ⟨rfl,n,rfl⟩;have AP6:Hid (Ap (fun b=>b=R) w (((w5).drewN 0).drewN n)):=AP5.out.drewN n;have PB6:Hid (Blk (((w5).drewN 0).drewN n) P 56 #[.string (st nm),.string ⟨#[]⟩]):=PB5.out;have RD6:Hid (Rd (((w5).drewN 0).drewN n) R s j3 tx ov):=RD5.out;have OW6:Hid ((((w5).drewN 0).drewN n).ownsRow w.heap.size 56 2 u3 out.length (Y8 out)):=OW5.out;generalize (((w5).drewN 0).drewN n)=w6 at AP6 PB6 RD6 OW6 ⊢;clear OW5;clear HH AP5 PB5 RD5;go_upto_if 34 with fail
     go_cut [34] (fun _ wx=>∃ j4 v,j3≤j4∧j4≤s.size∧Hid (wx.ownsRow w.heap.size 56 2 u3 out.length (Y8 out))∧Hid (Mk.z4w (s.data.toList.drop j3)=some (v,s.data.toList.drop j4))∧Hid (Blk wx P 56 #[.string (st nm),.string (st v)])∧Hid (Ap (fun b=>b=R) w wx)∧Hid (Rd wx R s j4 tx ov))
     case first =>
      cases bb with
      | false =>
       have HR:Hid (Mk.z4w (s.data.toList.drop j3)=some ([],s.data.toList.drop j3)):=by show _=_;rw[Mk.z4w,HBB.out];rfl
       clear HBB;go_wp2_with fail;go_meet
       case rel=>exact⟨j3,[],Lr,l3,OW6,HR,PB6,AP6,RD6⟩
      | true =>
       have hlt5:j3 < s.size:=by
        rcases Nat.lt_or_ge j3 s.size with h1 | h1
        ·exact h1
        ·have:=HBB.out;rw[List.drop_of_length_le (by simp;omega)] at this;cases this
       have HR:Hid (Mk.z4w (s.data.toList.drop j3)=(Mk.valueOf (s.data.toList.drop (j3 + 1))).map (fun x=>((Mk.take x.1).1,x.2))):=by show _=_;rw[Mk.z4w,HBB.out,if_pos rfl,List.tail_drop]
       clear HBB;have c1:=RD6.out.c1;have f1:=RD6.out.fz 1;go_wp2_with fail;have RD7:Hid (Rd (w6.setCell ⟨R,1,none⟩ (.int .i64 ((j3:Int) + 1))) R s (j3 + 1) tx ov):=by show Rd _ _ _ _ _ _;have:=RD6.out.at_ (j3 + 1);simpa using this
       have AP7:Hid (Ap (fun b=>b=R) w (w6.setCell ⟨R,1,none⟩ (.int .i64 ((j3:Int) + 1)))):=AP6.out.setCell (p:=⟨R,1,none⟩) rfl _;have PB7:Hid (Blk (w6.setCell ⟨R,1,none⟩ (.int .i64 ((j3:Int) + 1))) P 56 #[.string (st nm),.string ⟨#[]⟩]):=PB6.out.far (p:=⟨R,1,none⟩) hPR _;have OW7:Hid ((w6.setCell ⟨R,1,none⟩ (.int .i64 ((j3:Int) + 1))).ownsRow w.heap.size 56 2 u3 out.length (Y8 out)):=z2g OW6.out ((Ap.refl (fun b=>b=R) w6).setCell (p:=⟨R,1,none⟩) rfl _) HBR.out;generalize (w6.setCell ⟨R,1,none⟩ (.int .i64 ((j3:Int) + 1)))=w7 at RD7 AP7 PB7 OW7 ⊢;clear OW6;clear RD6 AP6 PB6 c1 f1;refine(rd_value RD7.out (by omega) hs).mono ?_;rintro e w8 (⟨hvn,rfl,⟨jj,hrd8⟩,ha8⟩ | ⟨v,r,j4,hvs,rfl,hj4s,hj4,hr,hrd8,ha8⟩)
       ·rw[HR.out,hvn] at HA
        have HA2:Hid (Mk.z5i (s.data.toList.drop k)=none):=HA;have AP8:=Ld (AP7.out.trans ha8);clear HA HR RD7 AP7 PB7 hvn ha8 OW7 RD AP HATJ;go_wp2_with fail;exact⟨rfl,.inl ⟨HA2.out,rfl,⟨_,hrd8⟩,AP8.out⟩⟩
       ·have hvl:=Mk.q7e hvs
        rw[List.length_drop,bs_len] at hvl;have HR2:Hid (Mk.z4w (s.data.toList.drop j3)=some ((Mk.take v).1,s.data.toList.drop j4)):=by show _=_;rw[HR.out,hvs,hr];rfl
        have AP8:=Ld (AP7.out.trans ha8);have PB8:=Ld (Blk.ap PB7.out ha8 hPR);have OW8:=Ld (z2g OW7.out ha8 HBR.out);have RD8:=Ld hrd8;have hg8:=hg.ap AP8.out hR0 hR1;have ht:=q0v (st v) w8 (by rw[Z4];omega) hg8;rw[z1o] at ht;have HT:=Ld ht;clear HR RD7 AP7 PB7 hvs ha8 hrd8 hr ht hg8;go_wp2_with fail;refine HT.out.mono ?_;rintro e w9 ⟨rfl,hb9⟩;have a9:Ap (fun b=>b=R) w8 w9:=Ap.of_below hb9;have RD9:=Ld ((hb9.block R (Blk.lt RD8.out)).trans RD8.out:Rd w9 R s j4 tx ov);have PB9:=Ld ((hb9.block P (Blk.lt PB8.out)).trans PB8.out:Blk w9 P 56 #[.string (st nm),.string ⟨#[]⟩]);have AP9:=Ld (AP8.out.trans a9);have OW9:=Ld (ownsRow_setCell_other (z2g OW8.out a9 HBR.out) (a:=⟨P,1,none⟩) HOP.out (.string (st (Mk.take v).1)));clear OW7 OW8;have c9:w9.cell? ⟨P,1,none⟩=some (.string ⟨#[]⟩):=Blk.cell PB9.out 1;have f9:=Blk.frozen PB9.out 1;clear HT hb9 a9 RD8 PB8 AP8;go_wp2_with fail;go_meet
        case rel=>exact⟨j4,(Mk.take v).1,by omega,hj4s,OW9,HR2,Blk.set_ PB9.out 1 _,AP9.out.setNew (p:=⟨P,1,none⟩) hP _,Blk.far RD9.out (p:=⟨P,1,none⟩) (fun e=>hPR e.symm) _⟩
     case rest =>
      obtain⟨j4,v,hj4,hj4s,OW7,HR,PB7,AP7,RD7⟩:=hcut;rw[HR.out] at HA;simp only at HA;clear HR OW6 PB6 AP6 RD6 HBB;have hsz7:=AP7.out.size;have c70:wc.cell? ⟨P,0,none⟩=some (.string (st nm)):=Blk.cell PB7.out 0;have hN:=fun W=>q8e (st nm) W (by rw[Z4];omega)
      rw[z1o] at hN
      cases hin:Mk.isName nm with
      | false =>
       have HA2:Hid (Mk.z5i (s.data.toList.drop k)=Mk.q0k (s.data.toList.drop j4) out):=by show _=_;rw[HA.out,Mk.q1d,hin];rfl
       rw[hin] at hN;have HN:=Ld hN;clear hN hin HA;go_wp2_with fail;refine(HN.out _).mono ?_;rintro e w8 ⟨rfl,rfl⟩;go_wp2_with fail;go_roundw
       case rel=>exact⟨j4,out,by omega,hj4s,by omega,HA2,RD7,AP7,OW7⟩
       case measure=>have e1:=HATJ.out;have e2:=RD7.out.atOf;rw[e1,e2];omega
      | true =>
       rw[hin] at hN;have HN:=Ld hN;clear hN;obtain⟨hs2,hhs2⟩:∃ b,Mk.z4m out nm=b:=⟨_,rfl⟩;have hPlt:P < wc.heap.size:=Blk.lt PB7.out;have hcf:=z2c 294 #[.pointer (some ⟨P,0,none⟩)] (fun a=>a.n == nm) j5l out u3 (fun b=>b < wc.heap.size) wc (AtsV.of_own OW7.out (fun g hg'=>(OW7.out.lt g hg').2)) (fun _ hb'=>hb') (by omega) (q7r P nm out wc hPlt c70);rw[show out.any (fun a=>a.n == nm)=hs2 from hhs2] at hcf;have HCF:=Ld hcf;clear hcf
       cases hs2 with
       | true =>
        have HA2:Hid (Mk.z5i (s.data.toList.drop k)=Mk.q0k (s.data.toList.drop j4) out):=by show _=_;rw[HA.out,Mk.q1d,hin,hhs2];rfl
        clear hin HA hhs2;go_wp2_with fail;refine(HN.out _).mono ?_;rintro e w8 ⟨rfl,rfl⟩;go_wp2_with fail;refine HCF.out.mono ?_;rintro e w9 ⟨rfl,hb9⟩;have a9:Ap (fun b=>b=R) w8 w9:=Ap.of_below hb9;have RD9:=Ld (Rd.ap_far RD7.out (Ap.of_below (S:=fun _=>False) hb9) (fun h=>h));have AP9:=Ld (AP7.out.trans a9);have OW9:=Ld (z2g OW7.out a9 HBR.out);clear a9 hb9 OW7 AP7 RD7 PB7;go_wp2_with fail;go_roundw
        case rel=>exact⟨j4,out,by omega,hj4s,by omega,HA2,RD9,AP9,OW9⟩
        case measure=>have e1:=HATJ.out;have e2:=RD9.out.atOf;rw[e1,e2];omega
       | false =>
        have HA2:Hid (Mk.z5i (s.data.toList.drop k)=Mk.q0k (s.data.toList.drop j4) (out++[⟨nm,v⟩])):=by show _=_;rw[HA.out,Mk.q1d,hin,hhs2];rfl
        clear hin HA hhs2;go_wp2_with fail;refine(HN.out _).mono ?_;rintro e w8 ⟨rfl,rfl⟩;go_wp2_with fail;refine HCF.out.mono ?_;rintro e w9 ⟨rfl,hb9⟩;have a9:Ap (fun b=>b=R) w8 w9:=Ap.of_below hb9;have RD9:=Ld (Rd.ap_far RD7.out (Ap.of_below (S:=fun _=>False) hb9) (fun h=>h));have PB9:=Ld (Blk.ap PB7.out (Ap.of_below (S:=fun _=>False) hb9) (fun h=>h));have AP9:=Ld (AP7.out.trans a9);have OW9:=Ld (z2g OW7.out a9 HBR.out);have hsz9:=AP9.out.size;have c90:w9.cell? ⟨P,0,none⟩=some (.string (st nm)):=Blk.cell PB9.out 0;have c91:w9.cell? ⟨P,1,none⟩=some (.string (st v)):=Blk.cell PB9.out 1;clear a9 hb9 OW7 AP7 RD7 PB7 c70;obtain⟨i0,hi,hz0,hz1,hz2⟩:=info_parts Tryz.infoAttr;have ow10:=z2g OW9.out ((Ap.refl (fun b=>b=R) w9).alloc (.cells #[.string (st nm),.string (st v)] 56)) HBR.out;have hlen10:out.length≤1048576:=by omega
        go_wp2_with (at_builtin;refine wpList_append_own _ rfl _ _ 50 rfl w.heap.size 56 i0 (.agg #[.string ⟨#[]⟩,.string ⟨#[]⟩]) 2 32 underlying50 hi hz0 hz1 hz2 rfl (by decide) _ _ _ rfl ow10 ⟨w9.heap.size,0,none⟩ 1 1 [.string (st nm),.string (st v)] rfl rfl (z0h _ _ _) (by intro u hu;simp at hu;rcases hu with rfl | rfl <;> rfl) (by unfold maxLen;omega) (by omega) (by simp;omega) ?_);intro v' w11 hown' hgrow _;have hown2:w11.ownsRow w.heap.size 56 2 v' (out++[(⟨nm,v⟩:Mk.At)]).length (Y8 (out++[⟨nm,v⟩])):=by
         rw[List.length_append,show Y8 (out++[(⟨nm,v⟩:Mk.At)])=Y8 out++[.string (st nm),.string (st v)] by simp[Y8]];exact hown'
        have OW11:=Ld hown2;have AP11:=Ld ((AP9.out.alloc (.cells #[.string (st nm),.string (st v)] 56)).grown hgrow (fun k hk e=>absurd hk (by have:=(OW9.out.lt k e).1;omega)));have RD11:Hid (Rd w11 R s j4 tx ov):=(hgrow.block R (by have:=Blk.lt RD9.out;simp;omega) (fun e=>HBR.out R (OW9.out.lt R e.symm).1 rfl)).trans (Blk.alloc RD9.out _);clear hown' hown2 hgrow OW9 AP9 RD9 ow10 PB9 c90 c91;go_wp2_with fail;go_roundw
        case rel=>exact⟨j4,out++[⟨nm,v⟩],by omega,hj4s,by rw[List.length_append,List.length_singleton];omega,HA2,RD11,AP11,OW11⟩
        case measure=>have e1:=HATJ.out;have e2:=RD11.out.atOf;rw[e1,e2];omega
  ·rw[show s.data.toList.drop j1=[] from List.drop_of_length_le (by simp;omega)] at HA
   simp only at HA;go_wp2_with fail;refine HP.out.mono ?_;rintro e w1 ⟨rfl,RD1,MV1⟩;have AP1:=AP.out.trans MV1.ap;go_wp2_with fail;refine(q1e RD1 (by omega)).mono ?_;rintro e w2 ⟨rfl,RD2,MV2⟩;have AP2:=Ld (AP1.trans MV2.ap);go_wp2_with fail;exact⟨rfl,.inl ⟨HA.out,rfl,⟨_,RD2⟩,AP2.out⟩⟩
end
theorem j0e (n:List UInt8) (w:World) :
  Calls prog 162 #[.string (st n)] w fun e w'=>e=.returned (.bool (Mk.z4f n))∧w'=w:=by
 have hst:(st n).toList=n:=Lib.toList_data _;go_enter func162,ntmps162;go_wp2_with fail
 all_goals (go_ret;refine⟨Z8 ?_,rfl⟩;first | rfl | (simp[Mk.z4f, *];done) | trace_state)
theorem j7t (n:List UInt8) (w:World) :
  Calls prog 241 #[.string (st n)] w fun e w'=>e=.returned (.bool (Mk.q1r n))∧w'=w:=by
 have hst:(st n).toList=n:=Lib.toList_data _;go_enter func241,ntmps241;go_wp2_with fail
 all_goals (go_ret;refine⟨Z8 ?_,rfl⟩;first | rfl | (simp[Mk.q1r,Mk.q26, *];done) | trace_state)
theorem tr_block (n:List UInt8) (w:World) :
  Calls prog 240 #[.string (st n)] w fun e w'=>e=.returned (.bool (Mk.q2j n))∧w'=w:=by
 have hst:(st n).toList=n:=Lib.toList_data _;have hw:=fun W=>j7t n W
 have hb:Mk.q2j n=(Mk.q1r n || n == [112] || n == [104,114]):=rfl;generalize Mk.q1r n=a at hw hb;have HW:=Ld hw;have HB:=Ld hb;clear hw hb;go_enter func240,ntmps240;go_wp2_with (go_at_call 241;refine(HW.out _).mono ?_;rintro e w' ⟨rfl,rfl⟩)
 all_goals (go_ret;refine⟨Z8 ?_,rfl⟩;rw[HB.out];first | rfl | (simp[*];done))
theorem tr_list (n:List UInt8) (w:World) :
  Calls prog 242 #[.string (st n)] w fun e w'=>e=.returned (.bool (Mk.q26 n))∧w'=w:=by
 have hst:(st n).toList=n:=Lib.toList_data _;go_enter func242,ntmps242;go_wp2_with fail
 all_goals (go_ret;refine⟨Z8 ?_,rfl⟩;first | rfl | (simp[Mk.q26, *];done))
theorem tr_none (n:List UInt8) (w:World) :
  Calls prog 193 #[.string (st n)] w fun e w'=>e=.returned (.bool false)∧w'=w:=by
 go_enter func193,ntmps193;go_wp2_with fail;go_ret;exact⟨rfl,rfl⟩
theorem j4v (n:List UInt8) (w:World) :
  Calls prog 137 #[.string (st n)] w fun e w'=>e=.returned (.bool (Mk.q19 n))∧w'=w:=by
 have hst:(st n).toList=n:=Lib.toList_data _;go_enter func137,ntmps137;go_wp2_with fail
 all_goals (go_ret;refine⟨Z8 ?_,rfl⟩;first | rfl | (simp[Mk.q19, *];done))
theorem cl_gone (n:List UInt8) (w:World) :
  Calls prog 249 #[.string (st n)] w fun e w'=>e=.returned (.bool (Mk.q82 n))∧w'=w:=by
 have hst:(st n).toList=n:=Lib.toList_data _;go_enter func249,ntmps249;go_wp2_with fail
 all_goals (go_ret;refine⟨Z8 ?_,rfl⟩;first | rfl | (simp[Mk.q82, *];done))
end Go.Proofs.YtjonkbdldebkiaaGreatDoor
namespace Mk
theorem q5o (x:Bs) (q:Bs→Bool) (l:List Bs):above x q (l.take 0)=none:=by simp[above,q5n]
theorem q2f (x:Bs) (q:Bs→Bool) (l:List Bs) (k:Nat) (h:k < l.length):above x q (l.take (k + 1))=if l[k]=x then some k else if q l[k] then none else above x q (l.take k):=by
 unfold above;rw[List.take_succ_eq_append_getElem h,List.reverse_append];show q5n x q (l[k] :: (l.take k).reverse)=_;rw[q5n,List.length_reverse,List.length_take,Nat.min_eq_left (by omega)]
theorem q3x (x:Bs) (q:Bs→Bool) (l:List Bs) (i:Nat) (h:above x q l=some i):i < l.length:=by
 have key:∀ k,k≤l.length→above x q (l.take k)=some i→i < k:=by
  intro k
  induction k with
  | zero=>intro _ h;rw[q5o] at h;cases h
  | succ k ih =>
   intro hk h;rw[q2f x q l k (by omega)] at h
   split at h
   ·injection h with h;omega
   split at h
   ·cases h
   ·have:=ih (by omega) h;omega
 exact key l.length (Lr) (by rw[List.take_length];exact h)
end Mk
namespace Go.Proofs.YtjonkbdldebkiaaGreatDoor
open Go.Proofs.Tryz Go.RowKit
def Q8 (l:List (List UInt8)):List Value:=l.map fun x=>.string (st x)
def z0n (w:World) (K:Nat→Prop) (v:Value) (l:List (List UInt8)):Prop:=∃ ao cap,v=.slice ao l.length cap∧l.length≤cap∧z19 w K ao (Q8 l)∧cap≤maxLen
theorem z0n.frame {w w':World} {K K':Nat→Prop} {v:Value} {l:List (List UInt8)} (h:z0n w K v l) (hk:∀ b,K b→K' b∧w'.heap[b]? = w.heap[b]?):z0n w' K' v l:=by
 obtain⟨ao,cap,h1,h2,h3,h4⟩:=h;exact⟨ao,cap,h1,h2,h3.frame hk,h4⟩
theorem z0n.nil (w:World) (K:Nat→Prop):z0n w K (.slice none 0 0) []:=⟨none,0,rfl,Lr,.inl rfl,Nat.zero_le _⟩
theorem z0n.at_ {w:World} {K:Nat→Prop} {v:Value} {l:List (List UInt8)} (h:z0n w K v l):∃ ao cap,v=.slice ao l.length cap∧l.length≤cap∧cap≤maxLen∧(l=[]∨∃ g o,ao=some ⟨g,o,none⟩∧K g∧∀ k (hk:k < l.length),w.cell? ⟨g,o + k,none⟩=some (.string (st l[k]))):=by
 obtain⟨ao,cap,h1,h2,h3,h4⟩:=h;refine⟨ao,cap,h1,h2,h4,?_⟩
 rcases h3 with h3 | ⟨g,o,e1,e2,e3⟩
 ·left;simpa [Q8] using h3
 ·right
  exact⟨g,o,e1,e2,fun k hk=>e3 k _ (by simp[Q8,List.getElem?_eq_getElem hk])⟩
theorem z0n.take {w:World} {K:Nat→Prop} {ao:Option Addr} {cap:Nat} {l:List (List UInt8)} (h:z0n w K (.slice ao l.length cap) l) (i:Nat) (hi:i≤l.length):z0n w K (.slice ao i cap) (l.take i):=by
 obtain⟨ao',cap',h1,h2,h3,h4⟩:=h;injection h1 with e1 e2 e3;subst e1;subst e3;refine⟨ao,cap,by rw[List.length_take,Nat.min_eq_left hi],by rw[List.length_take];omega,?_,h4⟩
 rcases h3 with h3 | ⟨g,o,e1,e2,e3⟩
 ·left
  have:l=[]:=by simpa [Q8] using h3
  subst this;simp[Q8]
 ·refine .inr ⟨g,o,e1,e2,fun k v hk=>e3 k v ?_⟩
  unfold Q8 at hk ⊢;rw[List.map_take] at hk;rw[List.getElem?_take] at hk
  split at hk
  ·exact hk
  ·cases hk
def optV:Option Nat→Value | none=>.int .i64 (-1) | some i=>.int .i64 i
def AsksS (g:FuncId) (q:List UInt8→Bool):Prop:=∀ (s:List UInt8) (w:World),Calls prog g #[.string (st s)] w fun e w'=>e=.returned (.bool (q s))∧w'=w
theorem q5f (g:FuncId) (q:List UInt8→Bool) (eg:∀ args w,(callFunc g args).run prog w=.ok (.enter g args) w) (hq:AsksS g q) (l:List (List UInt8)) (x:List UInt8) (v:Value) (K:Nat→Prop) (w:World) (hv:z0n w K v l) (hl:l.length≤33554432) :
  Calls prog 192 #[v,.string (st x),.func (.func g) #[] #[]] w fun e w'=>e=.returned (optV (Mk.above x q l))∧w'=w:=by
 obtain⟨ao,cap,rfl,hcap,hcm,hat⟩:=hv.at_
 have HQ:=Ld hq;have HA:=Ld hat
 clear hq hat hv;go_enter func192,ntmps192;go_wp2_with fail
 go_loopw [7] (fun i wr=>∃ k:Nat,k≤l.length∧i=.int .i64 ((k:Int) - 1)∧wr=w∧Hid (Mk.above x q l=Mk.above x q (l.take k))) (fun i _=>(intOf i + 1).toNat)
 case atStart=>exact⟨l.length,Lr,by go_num,rfl,by show _=_;rw[List.take_length]⟩
 case round =>
  obtain⟨k,hk,rfl,rfl,HK⟩:=hrel
  cases k with
  | zero =>
   have HE:Hid (Mk.above x q l=none):=by show _=_;rw[HK.out,Mk.q5o]
   clear HK;go_wp2_with fail;go_ret;exact⟨by rw[HE.out];rfl,rfl⟩
  | succ k =>
   have hlt:k < l.length:=by omega
   rcases HA.out with h0 | ⟨b,o,hao,_,hcl⟩
   ·rw[h0] at hlt;simp at hlt
   subst hao;have c0:=hcl k hlt;have HX:Hid (Mk.above x q l=if l[k]=x then some k else if q l[k] then none else Mk.above x q (l.take k)):=by show _=_;rw[HK.out,Mk.q2f x q l k hlt]
   have hst:∀ l:List UInt8,(st l).toList=l:=fun l=>Lib.toList_data _
   have hki:(((k + 1:Nat):Int) - 1)=(k:Int):=by omega
   rw[hki];have hk0:(0:Int)≤k:=by omega
   have hkl:(k:Int) < l.length:=by omega
   generalize l[k]=n at c0 HX;clear HK HA hcl hki
   by_cases hnx:n=x
   ·subst hnx
    have hb:(n == n)=true:=beq_self_eq_true n;rw[if_pos rfl] at HX;go_wp2_with fail;go_ret;exact⟨by rw[HX.out];rfl,rfl⟩
   ·rw[if_neg hnx] at HX
    have hb:(n == x)=false:=beq_eq_false_iff_ne.2 hnx;have hcall:=HQ.out n wr;generalize q n=bq at hcall HX;have HC:=Ld hcall;clear hcall
    cases bq with
    | true =>
     go_wp2_with fail;refine HC.out.mono ?_;rintro e w1 ⟨rfl,rfl⟩;go_wp2_with fail;go_ret;exact⟨by rw[HX.out];rfl,rfl⟩
    | false =>
     go_wp2_with fail;refine HC.out.mono ?_;rintro e w1 ⟨rfl,rfl⟩;go_wp2_with fail;go_roundw
     case rel=>exact⟨k,by omega,by go_num,by trivial,by show _=_;rw[HX.out];rfl⟩
     case measure=>simp[intOf]

theorem eg_wall (args:Array Value) (w:World):(callFunc 241 args).run prog w=.ok (.enter 241 args) w:=Z7 func241 (by kernel_rfl) rfl _ _
theorem eg_list (args:Array Value) (w:World):(callFunc 242 args).run prog w=.ok (.enter 242 args) w:=Z7 func242 (by kernel_rfl) rfl _ _
def stays1 (l:List (List UInt8)) (n:List UInt8):List (List UInt8):=if Mk.q2j n then Mk.q1x l (Mk.above [112] Mk.q1r l) else l
def q3j (l:List (List UInt8)) (n:List UInt8):List (List UInt8):=if n == [108,105] then Mk.q1x l (Mk.above [108,105] Mk.q26 l) else l
theorem stays_is (l:List (List UInt8)) (n:List UInt8):Mk.stays l n=(q3j (stays1 l n) n).length:=rfl
theorem j4x (l:List (List UInt8)) (o:Option Nat):(Mk.q1x l o).length≤l.length:=by
 cases o with
 | none=>exact Lr
 | some k=>show (l.take k).length≤l.length;rw[List.length_take];exact Nat.min_le_right _ _
theorem tr_stays (l:List (List UInt8)) (n:List UInt8) (v:Value) (K:Nat→Prop) (w:World) (hv:z0n w K v l) (hl:l.length≤33554432) :
  Calls prog 190 #[v,.string (st n)] w fun e w'=>e=.returned (.int .i64 (Mk.stays l n))∧w'=w:=by
 have hst:(st n).toList=n:=Lib.toList_data _;have HV:=Ld hv;have hll:(stays1 l n).length≤33554432:=by unfold stays1;split;exact Nat.le_trans (j4x _ _) hl;exact hl
 clear hv;go_enter func190,ntmps190;go_wp2_with fail;refine(tr_block n w).mono ?_;rintro e w1 ⟨rfl,hw⟩;subst hw;go_upto_if 8 with fail
 go_cut [0] (fun v wx=>wx=w1∧Hid (z0n w1 K v (stays1 l n)))
 case first =>
  cases hbl:Mk.q2j n with
  | false =>
   have HV1:Hid (z0n w1 K v (stays1 l n)):=by show z0n _ _ _ _;rw[stays1,hbl];exact HV.out
   clear hbl;go_wp2_with fail;go_meet
   case rel=>exact⟨rfl,HV1⟩
  | true =>
   have ha:=q5f 241 Mk.q1r eg_wall j7t l [112] v K w1 HV.out hl;obtain⟨o,ho⟩:∃ o,Mk.above [112] Mk.q1r l=o:=⟨_,rfl⟩;have h1:stays1 l n=Mk.q1x l o:=by rw[stays1,hbl,if_pos rfl,ho]
   have hlt:=Mk.q3x [112] Mk.q1r l;rw[ho] at ha hlt;have HA:=Ld ha;have H1:=Ld h1;clear ha h1 hbl ho
   cases o with
   | none =>
    clear hlt;go_wp2_with fail;refine HA.out.mono ?_;rintro e w2 ⟨rfl,hw⟩;subst hw;unfold optV;go_wp2_with fail;go_meet
    case rel=>exact⟨rfl,by rw[H1.out];exact HV⟩
   | some i =>
    have hi:=hlt i rfl;obtain⟨ao,cap,rfl,hcap,hcm,_⟩:=HV.out.at_
    have HT:=Ld (HV.out.take i (by omega));clear hlt;go_wp2_with fail;refine HA.out.mono ?_;rintro e w2 ⟨rfl,hw⟩;subst hw;unfold optV;have hi0:(0:Int)≤i:=by omega
    have hic:(i:Int)≤cap:=by omega
    go_wp2_with fail;go_meet
    case rel=>exact⟨rfl,by rw[H1.out];exact HT⟩
 case rest =>
  obtain⟨hw,HV1⟩:=hcut;subst hw;have hs2:=stays_is l n;generalize stays1 l n=l1 at HV1 hll hs2;have HS2:=Ld hs2;clear hs2;go_upto_if 17 with fail
  go_cut [0] (fun v wx=>wx=wc∧Hid (z0n wc K v (q3j l1 n)))
  case first =>
   cases hbl:(n == [108,105]) with
   | false =>
    have HV2:Hid (z0n wc K u0 (q3j l1 n)):=by show z0n _ _ _ _;rw[q3j,hbl];exact HV1.out
    clear HV;go_wp2_with fail;go_meet
    case rel=>exact⟨rfl,HV2⟩
   | true =>
    have ha:=q5f 242 Mk.q26 eg_list tr_list l1 [108,105] u0 K wc HV1.out hll;obtain⟨o,ho⟩:∃ o,Mk.above [108,105] Mk.q26 l1=o:=⟨_,rfl⟩;have h1:q3j l1 n=Mk.q1x l1 o:=by rw[q3j,hbl,if_pos rfl,ho]
    have hlt:=Mk.q3x [108,105] Mk.q26 l1;rw[ho] at ha hlt;have HA:=Ld ha;have H1:=Ld h1;clear ha h1 ho HV
    cases o with
    | none =>
     clear hlt;go_wp2_with fail;refine HA.out.mono ?_;rintro e w2 ⟨rfl,hw⟩;subst hw;unfold optV;go_wp2_with fail;go_meet
     case rel=>exact⟨rfl,by rw[H1.out];exact HV1⟩
    | some i =>
     have hi:=hlt i rfl;obtain⟨ao,cap,rfl,hcap,hcm,_⟩:=HV1.out.at_
     have HT:=Ld (HV1.out.take i (by omega));clear hlt;go_wp2_with fail;refine HA.out.mono ?_;rintro e w2 ⟨rfl,hw⟩;subst hw;unfold optV;have hi0:(0:Int)≤i:=by omega
     have hic:(i:Int)≤cap:=by omega
     go_wp2_with fail;go_meet
     case rel=>exact⟨rfl,by rw[H1.out];exact HT⟩
  case rest =>
   obtain⟨hw,HV2⟩:=hcut;subst hw;obtain⟨ao,cap,rfl,hcap,hcm,_⟩:=HV2.out.at_
   go_wp2_with fail;go_ret;exact⟨by rw[HS2.out];rfl,rfl⟩
end Go.Proofs.YtjonkbdldebkiaaGreatDoor
namespace Mk
namespace Fo
def drop:Fo→Nat→Fo
 | f,0=>f
 | nil,_ + 1=>nil
 | node _ _ _ _ r,k + 1=>drop r k
def atB (l:List At):Nat:=(l.map fun a=>1 + a.n.length + a.v.length).sum
def bulk:Fo→Nat
 | nil=>0
 | node n a t k r=>1 + n.length + t.length + atB a + bulk k + bulk r
theorem drop_zero (f:Fo):drop f 0=f:=by cases f <;> rfl
theorem z4e:∀ (f:Fo),drop f f.len=nil
 | nil=>rfl
 | node _ _ _ _ r=>by show drop r r.len=nil;exact z4e r
theorem z6j:∀ (f:Fo) (k:Nat),k < f.len→∃ n a t kk r,drop f k=node n a t kk r∧drop f (k + 1)=r
 | nil,k,h=>absurd h (Nat.not_lt_zero _)
 | node n a t kk r,0,_=>⟨n,a,t,kk,r,rfl,by show drop r 0=r;exact drop_zero r⟩
 | node n a t kk r,k + 1,h=>by
  obtain⟨n',a',t',k',r',h1,h2⟩:=z6j r k (by simp[len] at h;omega);exact⟨n',a',t',k',r',h1,h2⟩
theorem z1z:∀ (f:Fo) (k:Nat),bulk (drop f k)≤bulk f
 | f,0=>by rw[drop_zero];exact Lr
 | nil,_ + 1=>Lr
 | node n a t kk r,k + 1=>by
  have:=z1z r k;show bulk (drop r k)≤1 + n.length + t.length + atB a + bulk kk + bulk r;omega
theorem j5f (f:Fo) (k:Nat):(drop f k).len=f.len - k:=by
 induction k generalizing f with
 | zero=>rw[drop_zero];rfl
 | succ k ih =>
  cases f with
  | nil=>simp[drop,len]
  | node n a t kk r=>show (drop r k).len=r.len + 1 - (k + 1);rw[ih];omega
theorem z1r:∀ f:Fo,f.len≤bulk f
 | nil=>Lr
 | node n a t kk r=>by have:=z1r r;show r.len + 1≤1 + n.length + t.length + atB a + bulk kk + bulk r;omega
end Fo
theorem z5f (l:List At):l.length≤Fo.atB l:=by
 induction l with
 | nil=>exact Lr
 | cons a t ih=>simp[Fo.atB] at ih ⊢;omega
theorem q0h {l:List At} {a:At} (h:a ∈ l):1 + a.n.length + a.v.length≤Fo.atB l:=by
 induction l with
 | nil=>cases h
 | cons b t ih =>
  rcases List.mem_cons.1 h with e | e
  ·subst e;simp[Fo.atB]
  ·have:=ih e;simp[Fo.atB] at this ⊢;omega
end Mk
namespace Go.Proofs.YtjonkbdldebkiaaGreatDoor
open Go.RowKit
theorem z07.at_ {w:World} {K:Nat→Prop}:∀ {f:Mk.Fo} {xs:List Value},z07 w K f xs→∀ {k:Nat} {n:List UInt8} {a:List Mk.At} {t:List UInt8} {kk r:Mk.Fo},f.drop k=.node n a t kk r →
  ∃ va ao cap zs,xs[4 * k]? = some (.string (st n))∧xs[4 * k + 1]? = some va∧xs[4 * k + 2]? = some (.string (st t))∧xs[4 * k + 3]? = some (.slice ao kk.len cap)∧AtsV w K va a∧z19 w K ao zs∧kk.len≤maxLen∧z07 w K kk zs
 | .nil,_,_,k,_,_,_,_,_,hd=>by cases k <;> cases hd
 | .node n' a' t' k' r',xs,h,0,n,a,t,kk,r,hd=>by
  obtain⟨va,ao,cap,zs,ys,h1,h2,h3,h4,h5,h6⟩:=h;rw[Mk.Fo.drop_zero] at hd;injection hd with e1 e2 e3 e4 e5;subst e1;subst e2;subst e3;subst e4;subst e5;exact⟨va,ao,cap,zs,by rw[h1];rfl,by rw[h1];rfl,by rw[h1];rfl,by rw[h1];rfl,h2,h3,h4,h5⟩
 | .node n' a' t' k' r',xs,h,k + 1,n,a,t,kk,r,hd=>by
  obtain⟨va',ao',cap',zs',ys,h1,_,_,_,_,h6⟩:=h;have hd':r'.drop k=.node n a t kk r:=hd;obtain⟨va,ao,cap,zs,g1,g2,g3,g4,g5⟩:=z07.at_ h6 hd'
  have sh:∀ i v,ys[i]? = some v→xs[i + 4]? = some v:=by
   intro i v hi;rw[h1,List.getElem?_append_right (by simp)]
   simpa using hi
  exact⟨va,ao,cap,zs,by rw[show 4 * (k + 1)=4 * k + 4 by omega];exact sh _ _ g1,by rw[show 4 * (k + 1) + 1=4 * k + 1 + 4 by omega];exact sh _ _ g2,by rw[show 4 * (k + 1) + 2=4 * k + 2 + 4 by omega];exact sh _ _ g3,by rw[show 4 * (k + 1) + 3=4 * k + 3 + 4 by omega];exact sh _ _ g4,g5⟩
theorem FoV.at_ {w:World} {K:Nat→Prop} {v:Value} {f:Mk.Fo} (h:FoV w K v f):∃ g o cap,((v=.slice (some ⟨g,o,none⟩) f.len cap∧K g)∨∃ ao,v=.slice ao 0 cap∧f=.nil)∧f.len≤maxLen ∧
  ∀ k n a t kk r,f.drop k=.node n a t kk r→∃ va vk,w.cell? ⟨g,o + k * 4,none⟩=some (.string (st n))∧w.cell? ⟨g,o + k * 4 + 1,none⟩=some va∧w.cell? ⟨g,o + k * 4 + 2,none⟩=some (.string (st t))∧w.cell? ⟨g,o + k * 4 + 3,none⟩=some vk∧AtsV w K va a∧FoV w K vk kk:=by
 obtain⟨ao,cap,xs,h1,h2,h3,h4⟩:=h
 rcases h2 with h2 | ⟨g,o,e1,e2,e3⟩
 ·have hl:=h3.length
  rw[h2] at hl;have:f=.nil:=by
   cases f with
   | nil=>rfl
   | node _ _ _ _ _=>simp[Mk.Fo.len] at hl
  subst this;exact⟨0,0,cap,.inr ⟨ao,h1,rfl⟩,h4,fun k n a t kk r hd=>by cases k <;> cases hd⟩
 ·refine⟨g,o,cap,.inl ⟨by rw[h1,e1],e2⟩,h4,fun k n a t kk r hd=>?_⟩
  obtain⟨va,ao',cap',zs,g1,g2,g3,g4,g5,g6,g7,g8⟩:=h3.at_ hd
  rw[Nat.mul_comm k 4];exact⟨va,_,e3 _ _ g1,by rw[Nat.add_assoc];exact e3 _ _ g2,by rw[Nat.add_assoc];exact e3 _ _ g3,by rw[Nat.add_assoc];exact e3 _ _ g4,g5,ao',cap',zs,rfl,g6,g8,g7⟩
theorem FoV.below {w w':World} {K:Nat→Prop} {v:Value} {f:Mk.Fo} {B:Nat} (h:FoV w K v f) (hK:∀ b,K b→b < B) (hb:Below B w w'):FoV w' K v f:=h.frame fun b hk=>⟨hk,hb.block b (hK b hk)⟩
theorem AtsV.below {w w':World} {K:Nat→Prop} {v:Value} {f:List Mk.At} {B:Nat} (h:AtsV w K v f) (hK:∀ b,K b→b < B) (hb:Below B w w'):AtsV w' K v f:=h.frame fun b hk=>⟨hk,hb.block b (hK b hk)⟩
theorem z0n.below {w w':World} {K:Nat→Prop} {v:Value} {f:List (List UInt8)} {B:Nat} (h:z0n w K v f) (hK:∀ b,K b→b < B) (hb:Below B w w'):z0n w' K v f:=h.frame fun b hk=>⟨hk,hb.block b (hK b hk)⟩

end Go.Proofs.YtjonkbdldebkiaaGreatDoor
namespace Mk
namespace Fo
def z6a:Fo→Bs
 | nil=>[]
 | node n _ _ _ nil=>n
 | node _ _ _ _ (node m b u j r)=>z6a (node m b u j r)
def lastT:Fo→Bs
 | nil=>[]
 | node _ _ t _ nil=>t
 | node _ _ _ _ (node m b u j r)=>lastT (node m b u j r)
def merges (f:Fo) (n:Bs):Bool:=decide (n=[]) && decide (f ≠ nil) && decide (z6a f=[])
theorem z3e (f:Fo) (n:Bs):merges f n=true↔n=[]∧f ≠ nil∧z6a f=[]:=by
 unfold merges;rw[Bool.and_eq_true,Bool.and_eq_true,decide_eq_true_iff,decide_eq_true_iff,decide_eq_true_iff];exact and_assoc
theorem z5o (n n':Bs) (a':List At) (t':Bs) (k':Fo) (m:Bs) (b:List At) (u:Bs) (j r:Fo):merges (node n' a' t' k' (node m b u j r)) n=merges (node m b u j r) n:=by
 rw[Bool.eq_iff_iff,z3e,z3e];constructor
 ·rintro ⟨h1,_,h3⟩;exact⟨h1,(by intro e;cases e),h3⟩
 ·rintro ⟨h1,_,h3⟩;exact⟨h1,(by intro e;cases e),h3⟩
theorem z4u (n:Bs):merges nil n=false:=by
 rw[Bool.eq_false_iff];intro h;exact((z3e _ _).1 h).2.1 rfl
theorem z7s:∀ (f:Fo) (n:Bs) (a:List At) (t:Bs) (k:Fo),merges f n=true→(snoc n a t k f).len=f.len
 | nil,n,a,t,k,h=>by rw[z4u] at h;cases h
 | node n' a' t' k' nil,n,a,t,k,h=>by
  have h1:n=[]∧n'=[]:=⟨((z3e _ _).1 h).1,((z3e _ _).1 h).2.2⟩;unfold snoc;rw[if_pos h1];rfl
 | node n' a' t' k' (node m b u j r),n,a,t,k,h=>by
  have:=z7s (node m b u j r) n a t k (by rwa [z5o] at h);show (snoc n a t k (node m b u j r)).len + 1=(node m b u j r).len + 1;rw[this]
theorem z5t:∀ (f:Fo) (n:Bs) (a:List At) (t:Bs) (k:Fo),merges f n=false→(snoc n a t k f).len=f.len + 1
 | nil,n,a,t,k,_=>rfl
 | node n' a' t' k' nil,n,a,t,k,h=>by
  have h1:¬ (n=[]∧n'=[]):=by
   rintro ⟨rfl,rfl⟩;rw[(z3e _ _).2 ⟨rfl,(by intro e;cases e),rfl⟩] at h;cases h
  unfold snoc;rw[if_neg h1];rfl
 | node n' a' t' k' (node m b u j r),n,a,t,k,h=>by
  have:=z5t (node m b u j r) n a t k (by rwa [z5o] at h);show (snoc n a t k (node m b u j r)).len + 1=(node m b u j r).len + 1 + 1;rw[this]
theorem z4y:∀ (f:Fo) (n:Bs) (a:List At) (t:Bs) (k:Fo),bulk (snoc n a t k f)≤bulk f + (1 + n.length + t.length + atB a + bulk k)
 | nil,n,a,t,k=>by show 1 + n.length + t.length + atB a + bulk k + 0≤0 + (1 + n.length + t.length + atB a + bulk k);omega
 | node n' a' t' k' nil,n,a,t,k=>by
  unfold snoc
  split
  ·show 1 + n'.length + (t'++t).length + atB a' + bulk k' + 0≤(1 + n'.length + t'.length + atB a' + bulk k' + 0) + (1 + n.length + t.length + atB a + bulk k)
   rw[List.length_append];omega
  ·show 1 + n'.length + t'.length + atB a' + bulk k' + (1 + n.length + t.length + atB a + bulk k + 0)≤(1 + n'.length + t'.length + atB a' + bulk k' + 0) + (1 + n.length + t.length + atB a + bulk k)
   omega
 | node n' a' t' k' (node m b u j r),n,a,t,k=>by
  have:=z4y (node m b u j r) n a t k;show 1 + n'.length + t'.length + atB a' + bulk k' + bulk (snoc n a t k (node m b u j r))≤(1 + n'.length + t'.length + atB a' + bulk k' + bulk (node m b u j r)) + (1 + n.length + t.length + atB a + bulk k);omega
theorem z9a:∀ (g f:Fo),bulk (joins f g)≤bulk f + bulk g
 | nil,f=>Lr
 | node n a t k r,f=>by
  have h1:=z9a r (snoc n a t k f);have h2:=z4y f n a t k;show bulk (joins (snoc n a t k f) r)≤bulk f + (1 + n.length + t.length + atB a + bulk k + bulk r);omega
theorem z7a:∀ f:Fo,(lastT f).length≤bulk f
 | nil=>Lr
 | node n a t k nil=>by show t.length≤1 + n.length + t.length + atB a + bulk k + 0;omega
 | node n a t k (node m b u j r)=>by
  have:=z7a (node m b u j r);show (lastT (node m b u j r)).length≤1 + n.length + t.length + atB a + bulk k + bulk (node m b u j r);omega
end Fo
end Mk
namespace Go.Proofs.YtjonkbdldebkiaaGreatDoor
open Go.RowKit
theorem z07.push {w:World} {K:Nat→Prop} {n:List UInt8} {a:List Mk.At} {t:List UInt8} {k:Mk.Fo} {va:Value} {ao:Option Addr} {cap:Nat} {zs:List Value} (h2:AtsV w K va a) (h3:z19 w K ao zs) (h4:k.len≤maxLen) (h5:z07 w K k zs):∀ (f:Mk.Fo) (xs:List Value),z07 w K f xs→f.merges n=false→z07 w K (Mk.Fo.snoc n a t k f) (xs++[.string (st n),va,.string (st t),.slice ao k.len cap])
 | .nil,xs,h,_=>by
  have h:xs=[]:=h;subst h;exact⟨va,ao,cap,zs,[],rfl,h2,h3,h4,h5,rfl⟩
 | .node n' a' t' k' .nil,xs,h,hm=>by
  obtain⟨va',ao',cap',zs',ys,g1,g2,g3,g4,g5,g6⟩:=h;have g6:ys=[]:=g6;subst g6;have h1:¬ (n=[]∧n'=[]):=by
   rintro ⟨rfl,rfl⟩;rw[(Mk.Fo.z3e _ _).2 ⟨rfl,(by intro e;cases e),rfl⟩] at hm;cases hm
  unfold Mk.Fo.snoc;rw[if_neg h1,g1];exact⟨va',ao',cap',zs',_,by simp only [List.append_nil],g2,g3,g4,g5,va,ao,cap,zs,[],rfl,h2,h3,h4,h5,rfl⟩
 | .node n' a' t' k' (.node m b u j r),xs,h,hm=>by
  obtain⟨va',ao',cap',zs',ys,g1,g2,g3,g4,g5,g6⟩:=h;have:=z07.push (n:=n) (t:=t) (cap:=cap) h2 h3 h4 h5 (.node m b u j r) ys g6 (by rwa [Mk.Fo.z5o] at hm);rw[g1,List.append_assoc];exact⟨va',ao',cap',zs',_,rfl,g2,g3,g4,g5,this⟩
theorem z07.merge {w:World} {K:Nat→Prop} {n:List UInt8} {a:List Mk.At} {t:List UInt8} {k:Mk.Fo}:∀ (f:Mk.Fo) (xs:List Value),z07 w K f xs→f.merges n=true→z07 w K (Mk.Fo.snoc n a t k f) (xs.set (4 * (f.len - 1) + 2) (.string (st (f.lastT++t))))
 | .nil,xs,h,hm=>by rw[Mk.Fo.z4u] at hm;cases hm
 | .node n' a' t' k' .nil,xs,h,hm=>by
  obtain⟨va',ao',cap',zs',ys,g1,g2,g3,g4,g5,g6⟩:=h;have h1:n=[]∧n'=[]:=⟨((Mk.Fo.z3e _ _).1 hm).1,((Mk.Fo.z3e _ _).1 hm).2.2⟩;unfold Mk.Fo.snoc;rw[if_pos h1,g1];exact⟨va',ao',cap',zs',ys,rfl,g2,g3,g4,g5,g6⟩
 | .node n' a' t' k' (.node m b u j r),xs,h,hm=>by
  obtain⟨va',ao',cap',zs',ys,g1,g2,g3,g4,g5,g6⟩:=h;have hh:=z07.merge (n:=n) (a:=a) (t:=t) (k:=k) (.node m b u j r) ys g6 (by rwa [Mk.Fo.z5o] at hm);refine⟨va',ao',cap',zs',_,?_,g2,g3,g4,g5,hh⟩;rw[g1];have e:4 * ((Mk.Fo.node n' a' t' k' (.node m b u j r)).len - 1) + 2=4 + (4 * ((Mk.Fo.node m b u j r).len - 1) + 2):=by
   show 4 * (r.len + 1 + 1 - 1) + 2=4 + (4 * (r.len + 1 - 1) + 2);omega
  rw[e,List.set_append_right _ _ (by simp)];simp[Mk.Fo.lastT]
theorem z07.last_ {w:World} {K:Nat→Prop}:∀ (f:Mk.Fo) (xs:List Value),z07 w K f xs→f ≠ .nil→xs[4 * (f.len - 1)]? = some (.string (st f.z6a))∧xs[4 * (f.len - 1) + 2]? = some (.string (st f.lastT))
 | .nil,_,_,hn=>absurd rfl hn
 | .node n' a' t' k' .nil,xs,h,_=>by
  obtain⟨va',ao',cap',zs',ys,g1,_⟩:=h;rw[g1];exact⟨rfl,rfl⟩
 | .node n' a' t' k' (.node m b u j r),xs,h,_=>by
  obtain⟨va',ao',cap',zs',ys,g1,g2,g3,g4,g5,g6⟩:=h;obtain⟨h1,h2⟩:=z07.last_ (.node m b u j r) ys g6 (by intro e;cases e);have e:(Mk.Fo.node n' a' t' k' (.node m b u j r)).len - 1=((Mk.Fo.node m b u j r).len - 1) + 1:=by
   show r.len + 1 + 1 - 1=(r.len + 1 - 1) + 1;omega
  rw[g1,e];constructor
  ·rw[show 4 * ((Mk.Fo.node m b u j r).len - 1 + 1)=4 * ((Mk.Fo.node m b u j r).len - 1) + 4 by omega,List.getElem?_append_right (by simp)]
   simpa [Mk.Fo.z6a] using h1
  ·rw[show 4 * ((Mk.Fo.node m b u j r).len - 1 + 1) + 2=4 * ((Mk.Fo.node m b u j r).len - 1) + 2 + 4 by omega,List.getElem?_append_right (by simp)]
   simpa [Mk.Fo.lastT] using h2
theorem z4n {w:World} {B size n:Nat} {e:TypeId} {v:Value} {xs:List Value} (h:w.ownsRow B e size v n xs) {g:Nat} (hg:v.ownBlock=some g) (i:Nat) (u:Value):(w.setCell ⟨g,i,none⟩ u).ownsRow B e size v n (xs.set i u):=by
 refine⟨by rw[List.length_set];exact h.1,?_⟩
 rcases h.2 with ⟨hv,_⟩ | ⟨g',cap,cur,hv,hb,hh,hnc,hcm,hcs,ht⟩
 ·rw[hv] at hg;cases hg
 ·rw[hv] at hg
  injection hg with hg;have hg:g'=g:=hg;subst hg;refine .inr ⟨g',cap,cur.setIfInBounds i u,hv,hb,?_,hnc,hcm,by simpa using hcs,?_⟩
  ·have:=Blk.set_ (w:=w) (g:=g') (t:=e) (cs:=cur) hh i u
   exact this
  ·rw[← ht,Array.toList_setIfInBounds,List.take_set]
structure OwnF (w:World) (B:Nat) (K:Nat→Prop) (v:Value) (f:Mk.Fo) (xs:List Value):Prop where
 own:w.ownsRow B 53 4 v f.len xs
 cells:z07 w K f xs
 ne:∀ g,v.ownBlock=some g→¬ K g
 le:∀ b,K b→b < w.heap.size
theorem OwnF.frame {w w':World} {B:Nat} {K:Nat→Prop} {v:Value} {f:Mk.Fo} {xs:List Value} (h:OwnF w B K v f xs) (hs:w.heap.size≤w'.heap.size) (hk:∀ b,b < w.heap.size→(K b∨v.ownBlock=some b)→w'.heap[b]? = w.heap[b]?):OwnF w' B K v f xs:=by
 refine⟨⟨h.own.1,h.own.2.imp id ?_⟩,h.cells.frame fun b hb=>⟨hb,hk b (h.le b hb) (.inl hb)⟩,h.ne,fun b hb=>Nat.lt_of_lt_of_le (h.le b hb) hs⟩;rintro ⟨g,cap,cur,h1,h2,h3,h4⟩;have e:v.ownBlock=some g:=by rw[h1];rfl
 exact⟨g,cap,cur,h1,h2,(hk g (h.own.lt g e).2 (.inr e)).trans h3,h4⟩
theorem OwnF.foV {w:World} {B:Nat} {K K':Nat→Prop} {v:Value} {f:Mk.Fo} {xs:List Value} (h:OwnF w B K v f xs) (hK:∀ b,K b→K' b) (ho:∀ g,v.ownBlock=some g→K' g):FoV w K' v f:=by
 obtain⟨ao,cap,h1,h2,h3,h4⟩:=z19.of_own h.own ho;exact⟨ao,cap,xs,h1,h2,h.cells.frame fun b hb=>⟨hK b hb,rfl⟩,h4⟩
end Go.Proofs.YtjonkbdldebkiaaGreatDoor
namespace Go.Proofs.YtjonkbdldebkiaaGreatDoor
open Go.Proofs.Tryz Go.RowKit
def KT (w:World) (B:Nat) (b:Nat):Prop:=B≤b∧∃ cs f,w.heap[b]? = some (.cells cs 56 f)
theorem KT.lt {w:World} {B b:Nat} (h:KT w B b):b < w.heap.size:=by
 obtain⟨_,cs,f,h⟩:=h
 rcases Nat.lt_or_ge b w.heap.size with h' | h'
 ·exact h'
 ·rw[Array.getElem?_eq_none h'] at h;cases h
theorem KT.ne {w:World} {B b g:Nat} {T:TypeId} {cs:Array Value} (h:KT w B b) (hg:∃ f,w.heap[g]? = some (.cells cs T f)) (hT:56 ≠ T):b ≠ g:=by
 rintro rfl;obtain⟨_,cs',f',h⟩:=h;obtain⟨f,hg⟩:=hg;rw[hg] at h;injection h with h;injection h with h1 h2 h3;exact hT h2.symm
theorem KT.keep {w w':World} {B b:Nat} (h:KT w B b) (hb:w'.heap[b]? = w.heap[b]?):KT w' B b∧w'.heap[b]? = w.heap[b]?:=⟨⟨h.1,by rw[hb];exact h.2⟩,hb⟩
theorem z0f {S:Nat→Prop} {w w':World} {B size n:Nat} {e:TypeId} {v:Value} {xs:List Value} (h:w.ownsRow B e size v n xs) (ha:Ap S w w') (hS:∀ g,v.ownBlock=some g→¬ S g):w'.ownsRow B e size v n xs:=by
 refine⟨h.1,h.2.imp id ?_⟩;rintro ⟨g,cap,cur,h1,h2,h3,h4⟩;have hlt:g < w.heap.size:=by
  rcases Nat.lt_or_ge g w.heap.size with h' | h'
  ·exact h'
  ·rw[Array.getElem?_eq_none h'] at h3;cases h3
 exact⟨g,cap,cur,h1,h2,(ha.block g hlt (hS g (by rw[h1];rfl))).trans h3,h4⟩
structure RdO (w:World) (B R:Nat) (s:ByteArray) (k:Nat) (tx:List UInt8) (ts:List Mk.Tok) (ov:Value) (xs:List Value):Prop where
 hB:4 < B
 hBR:B≤R
 rd:Rd w R s k tx ov
 own:w.ownsRow B 181 4 ov ts.length xs
 cells:z0y w (KT w B) ts xs
 ne:ov.ownBlock ≠ some R
def RdS (w:World) (B R:Nat) (s:ByteArray) (k:Nat) (tx:List UInt8) (ts:List Mk.Tok):Prop:=∃ ov xs,RdO w B R s k tx ts ov xs
section
variable {w w' : World} {B R : Nat} {s : ByteArray} {k : Nat} {tx : List UInt8} {ts : List Mk.Tok} {ov : Value} {xs : List Value}
theorem RdO.next (h:RdO w B R s k tx ts ov xs) {j:Nat} {ty:List UInt8} (ha:Ap (fun b=>b=R) w w') (hr:Rd w' R s j ty ov):RdO w' B R s j ty ts ov xs :=
 ⟨h.hB,h.hBR,hr,z0f h.own ha (fun g hg e=>h.ne (by rw[hg,show g=R from e])),h.cells.frame fun b hb=>hb.keep (ha.block b hb.lt (fun e=>hb.ne ⟨_,h.rd⟩ (by decide) e)),h.ne⟩
theorem RdO.rlt (h:RdO w B R s k tx ts ov xs):R < w.heap.size:=Blk.lt h.rd
theorem RdO.below (h:RdO w B R s k tx ts ov xs) (hb:Below w.heap.size w w'):RdO w' B R s k tx ts ov xs :=
 h.next (Ap.of_below hb) (h.rd.ap_far (Ap.of_below (S:=fun _=>False) hb) (fun q=>q))
theorem RdO.setText (h:RdO w B R s k tx ts ov xs) (ty:List UInt8):RdO (w.setCell ⟨R,2,none⟩ (.string (st ty))) B R s k ty ts ov xs :=
 h.next ((Ap.refl (fun b=>b=R) w).setCell (p:=⟨R,2,none⟩) rfl _) (Blk.set_ h.rd 2 _)
theorem RdO.setAt (h:RdO w B R s k tx ts ov xs) (j:Nat):RdO (w.setCell ⟨R,1,none⟩ (.int .i64 j)) B R s j tx ts ov xs :=
 h.next ((Ap.refl (fun b=>b=R) w).setCell (p:=⟨R,1,none⟩) rfl _) (h.rd.at_ j)
theorem RdO.blt (h:RdO w B R s k tx ts ov xs):B≤w.heap.size:=Nat.le_trans h.hBR (Nat.le_of_lt h.rlt)
def j0d (t:Mk.Tok) (va:Value):List Value:=[.int .i64 t.kind,.string (st t.name),va,.string (st t.text)]
theorem RdO.push (h:RdO w B R s k tx ts ov xs) {t:Mk.Tok} {va:Value} (ha:AtsV w (KT w B) va t.ats) {w1 w2:World} {v':Value} (h1:Below w.heap.size w w1) (hown:w2.ownsRow B 181 4 v' (ts.length + 1) (xs++j0d t va)) (hg:w1.grownBy w2 ov.ownBlock) (hf:v'.ownBlock=ov.ownBlock∨v'.ownBlock=some w1.heap.size) :
  RdS (w2.setCell ⟨R,3,none⟩ v') B R s k tx (ts++[t])∧Below B w (w2.setCell ⟨R,3,none⟩ v')∧Ap (fun b=>b=R∨ov.ownBlock=some b) w (w2.setCell ⟨R,3,none⟩ v'):=by
 have hlt:=h.rlt;have hl1:R < w1.heap.size:=Nat.lt_of_lt_of_le hlt h1.size;have hne:v'.ownBlock ≠ some R:=by
  rcases hf with e | e
  ·rw[e];exact h.ne
  ·rw[e];intro q;injection q with q;omega
 have hkeep:∀ b,KT w B b→KT (w2.setCell ⟨R,3,none⟩ v') B b∧(w2.setCell ⟨R,3,none⟩ v').heap[b]? = w.heap[b]?:=by
  intro b hb;refine hb.keep ?_;rw[Below.heap_setCell w2 ⟨R,3,none⟩ v' b (fun e=>hb.ne ⟨_,h.rd⟩ (by decide) e)];rw[hg.block b (Nat.lt_of_lt_of_le hb.lt h1.size) ?_]
  ·exact h1.block b hb.lt
  ·intro e
   rcases h.own.2 with ⟨hv,_⟩ | ⟨g,cap,cur,hv,_,hh,_⟩
   ·rw[hv] at e;cases e
   ·rw[hv] at e
    injection e with e;exact hb.ne ⟨_,hh⟩ (by decide) e
 refine⟨⟨v',xs++j0d t va,h.hB,h.hBR,?_,?_,?_,hne⟩,?_⟩
 ·have hr:Rd w2 R s k tx ov:=(hg.block R hl1 (fun e=>h.ne e.symm)).trans ((h1.block R hlt).trans h.rd)
  exact Blk.set_ hr 3 v'
 ·rw[List.length_append]
  exact ownsRow_setCell_other hown (a:=⟨R,3,none⟩) hne v'
 ·exact(h.cells.frame hkeep).snoc (ha.frame hkeep)
 ·refine⟨Below.setCell ?_ (p:=⟨R,3,none⟩) h.hBR v',?_⟩
  ·exact(h1.mono h.blt).grown hg (Nat.le_trans h.blt h1.size) (fun k hk=>(h.own.lt k hk).1)
  ·refine((Ap.of_below h1).grown hg (fun k _ e=>.inr e)).setCell (p:=⟨R,3,none⟩) (.inl rfl) v'
end
theorem Z9 {w:World} {B size n:Nat} {e:TypeId} {v:Value} {xs:List Value} (h:w.ownsRow B e size v n xs):∃ ao cap,v=.slice ao n cap:=by
 rcases h.2 with ⟨hv,hn⟩ | ⟨g,cap,cur,hv,_⟩
 ·exact⟨none,0,by rw[hv,hn]⟩
 ·exact⟨_,_,hv⟩
theorem Tryz.infoTok:(prog.info? 181).map (fun i=>(i.zero,i.size,i.bytes))=some (some (.agg #[.int .i64 0,.string ⟨#[]⟩,.slice none 0 0,.string ⟨#[]⟩]),4,64):=by kernel_rfl

theorem q52 {w:World} {B R:Nat} {s:ByteArray} {k:Nat} {tx:List UInt8} {ts:List Mk.Tok} (hg:Gl w) {ov:Value} {xs:List Value} (h:RdO w B R s k tx ts ov xs) (htx:tx.length≤1048576) (hts:ts.length≤1048576) :
  Calls prog 127 #[.pointer (some ⟨R,0,none⟩)] w fun e w'=>e=.returned (.tuple #[])∧RdS w' B R s k [] (Mk.flush tx ts)∧Below B w w'∧Ap (fun b=>b=R∨ov.ownBlock=some b) w w':=by
 have c2:=h.rd.c2;have ht:=q0v (st tx) w (by rw[Z4];exact htx) hg;rw[z1o] at ht;have HT:=Ld ht;have H:=Ld h;clear ht h;go_enter func127,ntmps127;go_wp2_with fail;refine HT.out.mono ?_;rintro e w1 ⟨rfl,hb1⟩;have H1:=Ld (H.out.below hb1);have L1:=Ld (hb1.mono H.out.blt);have A1:=Ld (Ap.of_below (S:=fun b=>b=R∨ov.ownBlock=some b) hb1);have HF:Hid (Mk.flush tx ts=if (Mk.take tx).1=[] then ts else ts++[⟨1,[],[],(Mk.take tx).1⟩]):=by show _=_;rfl
 clear HT hb1 H c2;generalize (Mk.take tx).2=bb;generalize (Mk.take tx).1=t at HF ⊢;have hst:(st t).toList=t:=Lib.toList_data _;have f2:=H1.out.rd.fz 2;have f3:=H1.out.rd.fz 3;have c2:=H1.out.rd.c2;have c3:=H1.out.rd.c3
 by_cases h0:t=[]
 ·subst h0
  rw[if_pos rfl] at HF;have hst:(st []).toList=[]:=Lib.toList_data _;go_wp2_with fail;go_end0;exact⟨rfl,by rw[HF.out];exact⟨_,_,H1.out.setText []⟩,L1.out.setCell (p:=⟨R,2,none⟩) H1.out.hBR _,A1.out.setCell (p:=⟨R,2,none⟩) (.inl rfl) _⟩
 ·rw[if_neg h0] at HF
  have he:t.isEmpty=false:=by
   cases t with
   | nil=>exact absurd rfl h0
   | cons _ _=>rfl
  obtain⟨i0,hi,hz0,hz1,hz2⟩:=info_parts Tryz.infoTok;have hbl:=H1.out.blt;have ow10:=z0f H1.out.own ((Ap.refl (fun _=>False) w1).alloc (.cells #[.int .i64 1,.string ⟨#[]⟩,.slice none 0 0,.string (st t)] 181)) (fun _ _ q=>q);have hb11:Below w1.heap.size w1 (w1.alloc (.cells #[.int .i64 1,.string ⟨#[]⟩,.slice none 0 0,.string (st t)] 181)):=(Below.refl _ w1).alloc (Lr) _;go_wp2_with (at_builtin;refine J3 rfl _ _ 63 rfl B 181 i0 (.agg #[.int .i64 0,.string ⟨#[]⟩,.slice none 0 0,.string ⟨#[]⟩]) 4 64 underlying63 hi hz0 hz1 hz2 rfl (by decide) _ _ _ rfl ow10 ⟨w1.heap.size,0,none⟩ 1 1 [.int .i64 1,.string ⟨#[]⟩,.slice none 0 0,.string (st t)] rfl rfl (z0h _ _ _) (by intro u hu;simp at hu;rcases hu with rfl | rfl | rfl | rfl <;> rfl) (by decide) (by unfold maxLen;omega) (by omega) (by simp;omega) ?_);intro v' w2 hown' hgrow hfresh;obtain⟨r1,r2,r3⟩:=H1.out.push (t:=⟨1,[],[],t⟩) (va:=.slice none 0 0) (AtsV.nil _ _) hb11 hown' hgrow (hfresh.imp id (fun e=>by rw[e];simp));have R1:=Ld r1;have R2:=Ld r2;have R3:=Ld r3;have f3':w2.frozen? ⟨R,3,none⟩=false:=by
   obtain⟨_,_,r⟩:=r1;have:=r.rd.fz 3
   rwa [World.frozen?_setCell] at this
  have c3':w2.cell? ⟨R,3,none⟩=some ov:=by
   have hR:Rd w2 R s k tx ov:=(hgrow.block R (Nat.lt_of_lt_of_le H1.out.rlt hb11.size) (fun e=>H1.out.ne e.symm)).trans ((hb11.block R H1.out.rlt).trans H1.out.rd);exact hR.c3
  have f2':(w2.setCell ⟨R,3,none⟩ v').frozen? ⟨R,2,none⟩=false:=by
   obtain⟨_,_,r⟩:=r1;exact r.rd.fz 2
  have c2':(w2.setCell ⟨R,3,none⟩ v').cell? ⟨R,2,none⟩=some (.string (st tx)):=by
   obtain⟨_,_,r⟩:=r1;exact r.rd.c2
  obtain⟨ao,cap,rfl⟩:=Z9 hown';clear hown' hgrow hfresh r1 r2 r3 ow10 hb11 f2 f3 c2 c3;go_wp2_with fail;go_end0;refine⟨rfl,?_,(L1.out.trans R2.out).setCell (p:=⟨R,2,none⟩) H1.out.hBR _,(A1.out.trans R3.out).setCell (p:=⟨R,2,none⟩) (.inl rfl) _⟩;rw[HF.out];obtain⟨ov2,xs2,r⟩:=R1.out;exact⟨_,_,r.setText []⟩

def Keeps (w w':World):Prop:=∀ (b:Nat) (cs:Array Value) (f:Nat × Nat),w.heap[b]? = some (Obj.cells cs 4 f)→w'.heap[b]? = some (Obj.cells cs 4 f)
structure Fr (B:Nat) (w w':World):Prop where
 below:Below B w w'
 keeps:Keeps w w'
theorem Fr.refl (B:Nat) (w:World):Fr B w w:=⟨Below.refl B w,fun _ _ _ h=>h⟩
theorem Fr.trans {B:Nat} {a b c:World} (h:Fr B a b) (k:Fr B b c):Fr B a c:=⟨h.below.trans k.below,fun i cs f q=>k.keeps i cs f (h.keeps i cs f q)⟩
theorem Fr.drewN {B:Nat} {a b:World} (h:Fr B a b) (n:Nat):Fr B a (b.drewN n):=⟨below_drewN h.below n,h.keeps⟩
theorem Fr.drew {B:Nat} {a b:World} (h:Fr B a b):Fr B a b.drew:=⟨h.below.drew,h.keeps⟩
theorem lt_of_heap {w:World} {b:Nat} {o:Obj} (h:w.heap[b]? = some o):b < w.heap.size:=by
 rcases Nat.lt_or_ge b w.heap.size with h' | h'
 ·exact h'
 ·rw[Array.getElem?_eq_none h'] at h;cases h
theorem z2j {w:World} {b g:Nat} {cs cs':Array Value} {f f':Nat × Nat} {T T':TypeId} (h:w.heap[b]? = some (.cells cs T f)) (hg:w.heap[g]? = some (.cells cs' T' f')) (hT:T ≠ T'):b ≠ g:=by
 rintro rfl;rw[hg] at h;injection h with h;injection h with h1 h2 h3;exact hT h2.symm
section
variable {w w' : World} {B R : Nat} {s : ByteArray} {k : Nat} {tx : List UInt8} {ts : List Mk.Tok} {ov : Value} {xs : List Value}
theorem Fr.of_below (h:RdO w B R s k tx ts ov xs) (hb:Below w.heap.size w w'):Fr B w w':=⟨hb.mono h.blt,fun b _ _ q=>(hb.block b (lt_of_heap q)).trans q⟩
theorem Fr.of_ap (h:RdO w B R s k tx ts ov xs) (ha:Ap (fun b=>b=R) w w'):Fr B w w' :=
 ⟨ha.below h.blt (fun k hk e=>by have e:k=R:=e;have:=h.hBR;omega),fun b _ _ q=>(ha.block b (lt_of_heap q) (fun e=>z2j q h.rd (by decide) e)).trans q⟩
theorem Fr.of_push (h:RdO w B R s k tx ts ov xs) (hb:Below B w w') (ha:Ap (fun b=>b=R∨ov.ownBlock=some b) w w'):Fr B w w':=by
 refine⟨hb,fun b _ _ q=>(ha.block b (lt_of_heap q) ?_).trans q⟩;rintro (e | e)
 ·exact z2j q h.rd (by decide) e
 ·rcases h.own.2 with ⟨hv,_⟩ | ⟨g,cap,cur,hv,_,hh,_⟩
  ·rw[hv] at e;cases e
  ·rw[hv] at e
   injection e with e;exact z2j q hh (by decide) e.symm
theorem Fr.tok {P:Nat} {cs:Array Value} (hP:Blk w P 181 cs) (hB:B≤P) (i:Nat) (v:Value):Fr B w (w.setCell ⟨P,i,none⟩ v) :=
 ⟨(Below.refl B w).setCell (p:=⟨P,i,none⟩) hB v,fun b _ _ q=>(Below.heap_setCell w ⟨P,i,none⟩ v b (fun e=>z2j q hP (by decide) e)).trans q⟩
theorem Fr.own (h:RdO w B R s k tx ts ov xs) (i:Nat) (v:Value):Fr B w (w.setCell ⟨R,i,none⟩ v):=Fr.of_ap h ((Ap.refl (fun b=>b=R) w).setCell (p:=⟨R,i,none⟩) rfl v)
end
end Go.Proofs.YtjonkbdldebkiaaGreatDoor
