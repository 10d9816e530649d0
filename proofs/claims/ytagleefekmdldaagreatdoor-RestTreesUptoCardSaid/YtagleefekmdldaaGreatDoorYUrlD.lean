/- Contracts of the program's joined, Split and Join. Condition: all texts together at most 67108864 bytes. -/
import Derived.Test.YtagleefekmdldaaGreatDoorYUrlC
import Derived.Deep.RegionHeld3
import Derived.Test.YtagleefekmdldaaGreatDoorYMkTake
import Derived.Deep.CutBlock
import Derived.Deep.DeepCutAuto
import Derived.Test.YtagleefekmdldaaGreatDoorYMkTok2
set_option linter.unusedVariables false
set_option linter.unusedSimpArgs false
set_option maxHeartbeats 4000000
set_option maxRecDepth 100000
namespace Go.Proofs.YtagleefekmdldaaGreatDoor
open Go.Proofs.Tryz Go.RowKit

theorem z19 (x y:ByteArray):x++y=st (x.data.toList++y.data.toList):=by
 rw[← st_bs (x++y)]
 congr 1
theorem q7u (a:Addr) (s x y z:ByteArray) (w:World) (hc:w.cell? a=some (.string s)) (hf:w.frozen? a=false) (hl:s.size + x.size + y.size + z.size≤8388608) :
  Calls prog 215 #[.bool true,.string x,.string y,.string z,.pointer (some a)] w fun e w'=>e=.returned (.tuple #[])∧w'=w.setCell a (.string (st (s.data.toList++x.data.toList++y.data.toList++z.data.toList))):=by
 go_enter func215,ntmps215;go_wp2;go_end0;refine⟨rfl,?_⟩;rw[z19 x y,z19 _ z,z19 s];simp only [z0b,List.append_assoc]
theorem j1o (a:Addr) (x y z:ByteArray) (w:World) :
  Calls prog 215 #[.bool false,.string x,.string y,.string z,.pointer (some a)] w fun e w'=>e=.returned (.tuple #[])∧w'=w:=by
 go_enter func215,ntmps215;go_wp2;go_end0;exact⟨rfl,rfl⟩

def jput (h:Bool) (s x y z:List UInt8):List UInt8:=if h then s++x++y++z else s
theorem q1h (h:Bool) (a:Addr) (s x y z:List UInt8) (w:World) (hc:w.cell? a=some (.string (st s))) (hf:w.frozen? a=false) (hl:s.length + x.length + y.length + z.length≤8388608) :
  Calls prog 215 #[.bool h,.string (st x),.string (st y),.string (st z),.pointer (some a)] w fun e w'=>e=.returned (.tuple #[])∧((h=true∧w'=w.setCell a (.string (st (jput h s x y z))))∨h=false∧w'=w):=by
 cases h with
 | true=>exact(q7u a (st s) (st x) (st y) (st z) w hc hf (by simpa [y9] using hl)).mono fun e w' ⟨he,hw⟩=>⟨he,.inl ⟨rfl,hw⟩⟩
 | false=>exact(j1o a (st x) (st y) (st z) w).mono fun e w' ⟨he,hw⟩=>⟨he,.inr ⟨rfl,hw⟩⟩

structure JSt (w wk:World) (acc:List UInt8) (u:Mg.U):Prop where
 below:Below w.heap.size w wk
 uu:Blk wk w.heap.size 223 (z03 u)
 ac:Blk wk (w.heap.size + 1) 9 #[.string (st acc)]
theorem JSt.start (w:World) (u:Mg.U):JSt w ((w.alloc (.cells (z03 u) 223)).alloc (.cells #[.string (st [])] 9)) [] u:=by
 have b2:=Blk.new (w.alloc (.cells (z03 u) 223)) 9 #[.string (st [])];have e1:(w.alloc (.cells (z03 u) 223)).heap.size=w.heap.size + 1:=by simp
 rw[e1] at b2;exact⟨((Below.refl _ w).alloc (Lr) _).alloc (by omega) _,(Blk.new w 223 (z03 u)).alloc _,b2⟩
theorem JSt.step {w wk w':World} {acc x y z:List UInt8} {u:Mg.U} {h:Bool} (j:JSt w wk acc u) (hw:(h=true∧w'=wk.setCell ⟨w.heap.size + 1,0,none⟩ (.string (st (jput h acc x y z))))∨h=false∧w'=wk):JSt w w' (jput h acc x y z) u:=by
 rcases hw with ⟨rfl,rfl⟩ | ⟨rfl,rfl⟩
 ·exact⟨j.below.setCell (by show _≤w.heap.size + 1;omega) _,j.uu.far (by show _ ≠ w.heap.size + 1;omega) _,j.ac.set_ 0 _⟩
 ·exact j
theorem z7v (h:Bool) (s x y z:List UInt8):(jput h s x y z).length≤s.length + x.length + y.length + z.length:=by
 unfold jput;split
 ·simp only [List.length_append];omega
 ·omega
theorem j5c (u:Mg.U):jput u.hf (jput u.hq (jput true (jput u.ha (jput u.hs [] [] u.sch [58]) [47,47] u.au []) [] u.pa []) [63] u.qu []) [35] u.fr []=Mg.join u:=by
 obtain⟨a1,a2,a3,a4,a5,a6,a7,a8,a9⟩:=u
 cases a6 <;> cases a7 <;> cases a8 <;> cases a9 <;> simp[jput,Mg.join]
theorem q8i (a b:Mg.U) (w:World):(binOp .eql 223 (uVal a) (uVal b)).run prog w=.ok (.bool (a == b)) w:=by
 have hst:∀ l,(st l).toList=l:=fun l=>Lib.toList_data _
 simp only [binOp];simp only [Op.equal,Op.maxDepth,uVal];simp[run_equalIn_struct,go_sem];simp only [hst];obtain⟨a1,a2,a3,a4,a5,a6,a7,a8,a9⟩:=a;obtain⟨b1,b2,b3,b4,b5,b6,b7,b8,b9⟩:=b;have e:((⟨a1,a2,a3,a4,a5,a6,a7,a8,a9⟩:Mg.U) == ⟨b1,b2,b3,b4,b5,b6,b7,b8,b9⟩)=decide (a1=b1∧a2=b2∧a3=b3∧a4=b4∧a5=b5∧a6=b6∧a7=b7∧a8=b8∧a9=b9):=by
  rw[Bool.eq_iff_iff];simp
 rw[e]
 by_cases h1:a1=b1
 ·by_cases h2:a2=b2
  ·by_cases h3:a3=b3
   ·by_cases h4:a4=b4
    ·by_cases h5:a5=b5
     ·by_cases h6:a6=b6
      ·by_cases h7:a7=b7
       ·by_cases h8:a8=b8
        ·by_cases h9:a9=b9 <;> simp[h1,h2,h3,h4,h5,h6,h7,h8,h9]
        ·simp[h1,h2,h3,h4,h5,h6,h7,h8]
       ·simp[h1,h2,h3,h4,h5,h6,h7]
      ·simp[h1,h2,h3,h4,h5,h6]
     ·simp[h1,h2,h3,h4,h5]
    ·simp[h1,h2,h3,h4]
   ·simp[h1,h2,h3]
  ·simp[h1,h2]
 ·simp[h1]
theorem q6o (a u:Mg.U) (w:World):(binOp .eql 223 (uVal a) (.agg #[.string (st u.sch),.string (st u.au),.string (st u.pa),.string (st u.qu),.string (st u.fr),.bool u.hs,.bool u.ha,.bool u.hq,.bool u.hf])).run prog w=.ok (.bool (a == u)) w:=q8i a u w
theorem Tryz.guardUrl:prog.eqGuardType prog.depth 223=false:=by kernel_rfl
theorem q4r (a u:Mg.U) (x y:Operand) (w:World):(eqGuard .eql 223 x y (uVal a) (.agg #[.string (st u.sch),.string (st u.au),.string (st u.pa),.string (st u.qu),.string (st u.fr),.bool u.hs,.bool u.ha,.bool u.hq,.bool u.hf])).run prog w=.ok () w:=by
 unfold uVal;exact run_eqGuard_agg w .eql _ x y _ _ Tryz.guardUrl
theorem cell_kept {wk w1:World} {b o:Nat} {v:Value} (h:wk.cell? ⟨b,o,none⟩=some v) (hb:Below wk.heap.size wk w1):w1.cell? ⟨b,o,none⟩=some v :=
 (hb.cell (p:=⟨b,o,none⟩) (World.block_lt_of_cell? wk _ h)).trans h
theorem jkeep {w wk w1:World} {acc:List UInt8} {u:Mg.U} (h:wk.cell? ⟨w.heap.size + 1,0,none⟩=some (.string (st acc))∧wk.cell? ⟨w.heap.size,0,none⟩=some (.string (st u.sch))∧wk.cell? ⟨w.heap.size,1,none⟩=some (.string (st u.au))∧wk.cell? ⟨w.heap.size,2,none⟩=some (.string (st u.pa))∧wk.cell? ⟨w.heap.size,3,none⟩=some (.string (st u.qu))∧wk.cell? ⟨w.heap.size,4,none⟩=some (.string (st u.fr))∧wk.cell? ⟨w.heap.size,5,none⟩=some (.bool u.hs)∧wk.cell? ⟨w.heap.size,6,none⟩=some (.bool u.ha)∧wk.cell? ⟨w.heap.size,7,none⟩=some (.bool u.hq)∧wk.cell? ⟨w.heap.size,8,none⟩=some (.bool u.hf)) (hb:Below wk.heap.size wk w1) :
  w1.cell? ⟨w.heap.size + 1,0,none⟩=some (.string (st acc))∧w1.cell? ⟨w.heap.size,0,none⟩=some (.string (st u.sch))∧w1.cell? ⟨w.heap.size,1,none⟩=some (.string (st u.au))∧w1.cell? ⟨w.heap.size,2,none⟩=some (.string (st u.pa))∧w1.cell? ⟨w.heap.size,3,none⟩=some (.string (st u.qu))∧w1.cell? ⟨w.heap.size,4,none⟩=some (.string (st u.fr))∧w1.cell? ⟨w.heap.size,5,none⟩=some (.bool u.hs)∧w1.cell? ⟨w.heap.size,6,none⟩=some (.bool u.ha)∧w1.cell? ⟨w.heap.size,7,none⟩=some (.bool u.hq)∧w1.cell? ⟨w.heap.size,8,none⟩=some (.bool u.hf):=by
 obtain⟨a0,a1,a2,a3,a4,a5,a6,a7,a8,a9⟩:=h;exact⟨cell_kept a0 hb,cell_kept a1 hb,cell_kept a2 hb,cell_kept a3 hb,cell_kept a4 hb,cell_kept a5 hb,cell_kept a6 hb,cell_kept a7 hb,cell_kept a8 hb,cell_kept a9 hb⟩
theorem j2y (u:Mg.U) (w:World) (hl:u.sch.length + u.au.length + u.pa.length + u.qu.length + u.fr.length≤1048576) :
  Calls prog 200 #[uVal u] w fun e w'=>e=.returned (.tuple #[.string (st (Mg.join u)),.bool (Mg.q33 u)])∧Below w.heap.size w w':=by
 have js:=JSt.start w u;unfold uVal;go_enter func200,ntmps200;go_wp2_with fail;change Calls _ _ _ ((w.alloc (.cells (z03 u) 223)).alloc (.cells #[.string (st [])] 9)) _;generalize (w.alloc (.cells (z03 u) 223)).alloc (.cells #[.string (st [])] 9)=w1 at js ⊢;refine(q1h u.hs _ [] [] u.sch [58] _ (js.ac.cell 0) (js.ac.frozen 0) (by simp;omega)).mono ?_;rintro e w2 ⟨rfl,hw2⟩;have j2:=js.step hw2;clear js hw2;have c1:w2.cell? ⟨w.heap.size,6,none⟩=some (.bool u.ha):=j2.uu.cell 6;have c2:w2.cell? ⟨w.heap.size,1,none⟩=some (.string (st u.au)):=j2.uu.cell 1;have l2:=z7v u.hs [] [] u.sch [58];go_wp2_with fail;refine(q1h u.ha _ _ [47,47] u.au [] _ (j2.ac.cell 0) (j2.ac.frozen 0) (by simp at l2 ⊢;omega)).mono ?_;rintro e w3 ⟨rfl,hw3⟩;have j3:=j2.step hw3;have l3:=z7v u.ha (jput u.hs [] [] u.sch [58]) [47,47] u.au [];clear j2 hw3 c1 c2;have c1:w3.cell? ⟨w.heap.size,2,none⟩=some (.string (st u.pa)):=j3.uu.cell 2;go_wp2_with fail;refine(q1h true _ _ [] u.pa [] _ (j3.ac.cell 0) (j3.ac.frozen 0) (by simp at l2 l3 ⊢;omega)).mono ?_;rintro e w4 ⟨rfl,hw4⟩;have j4:=j3.step hw4;have l4:=z7v true (jput u.ha (jput u.hs [] [] u.sch [58]) [47,47] u.au []) [] u.pa [];clear j3 hw4 c1;have c1:w4.cell? ⟨w.heap.size,7,none⟩=some (.bool u.hq):=j4.uu.cell 7;have c2:w4.cell? ⟨w.heap.size,3,none⟩=some (.string (st u.qu)):=j4.uu.cell 3;go_wp2_with fail;refine(q1h u.hq _ _ [63] u.qu [] _ (j4.ac.cell 0) (j4.ac.frozen 0) (by simp at l2 l3 l4 ⊢;omega)).mono ?_;rintro e w5 ⟨rfl,hw5⟩;have j5:=j4.step hw5;have l5:=z7v u.hq (jput true (jput u.ha (jput u.hs [] [] u.sch [58]) [47,47] u.au []) [] u.pa []) [63] u.qu [];clear j4 hw5 c1 c2;have c1:w5.cell? ⟨w.heap.size,8,none⟩=some (.bool u.hf):=j5.uu.cell 8;have c2:w5.cell? ⟨w.heap.size,4,none⟩=some (.string (st u.fr)):=j5.uu.cell 4;go_wp2_with fail;refine(q1h u.hf _ _ [35] u.fr [] _ (j5.ac.cell 0) (j5.ac.frozen 0) (by simp at l2 l3 l4 l5 ⊢;omega)).mono ?_;rintro e w6 ⟨rfl,hw6⟩;have j6:=j5.step hw6;have l6:=z7v u.hf (jput u.hq (jput true (jput u.ha (jput u.hs [] [] u.sch [58]) [47,47] u.au []) [] u.pa []) [63] u.qu []) [35] u.fr [];clear j5 hw6 c1 c2;have hj:=j5c u;obtain⟨acc,hacc⟩:∃ acc,acc=jput u.hf (jput u.hq (jput true (jput u.ha (jput u.hs [] [] u.sch [58]) [47,47] u.au []) [] u.pa []) [63] u.qu []) [35] u.fr []:=⟨_,rfl⟩;rw[← hacc] at j6 l6 hj;have hlen:(st acc).size≤67108864:=by simp[y9] at l2 l3 l4 l5 l6 ⊢;omega
 have HJ:=Ld hj;clear hacc l2 l3 l4 l5 l6 hj;have hbl:=j6.below;have s0:w6.cell? ⟨w.heap.size + 1,0,none⟩=some (.string (st acc)):=j6.ac.cell 0;have d0:w6.cell? ⟨w.heap.size,0,none⟩=some (.string (st u.sch)):=j6.uu.cell 0;have d1:w6.cell? ⟨w.heap.size,1,none⟩=some (.string (st u.au)):=j6.uu.cell 1;have d2:w6.cell? ⟨w.heap.size,2,none⟩=some (.string (st u.pa)):=j6.uu.cell 2;have d3:w6.cell? ⟨w.heap.size,3,none⟩=some (.string (st u.qu)):=j6.uu.cell 3;have d4:w6.cell? ⟨w.heap.size,4,none⟩=some (.string (st u.fr)):=j6.uu.cell 4;have d5:w6.cell? ⟨w.heap.size,5,none⟩=some (.bool u.hs):=j6.uu.cell 5;have d6:w6.cell? ⟨w.heap.size,6,none⟩=some (.bool u.ha):=j6.uu.cell 6;have d7:w6.cell? ⟨w.heap.size,7,none⟩=some (.bool u.hq):=j6.uu.cell 7;have d8:w6.cell? ⟨w.heap.size,8,none⟩=some (.bool u.hf):=j6.uu.cell 8;have hlt:=j6.ac.lt;clear j6;go_wp2_with fail;have heq:=fun W=>q6o (Mg.split (st acc).data.toList) u W
 have hgd:=fun x y W=>q4r (Mg.split (st acc).data.toList) u x y W
 go_region_held3 (fun w'=>w'.cell? ⟨w.heap.size + 1,0,none⟩=some (.string (st acc))∧w'.cell? ⟨w.heap.size,0,none⟩=some (.string (st u.sch))∧w'.cell? ⟨w.heap.size,1,none⟩=some (.string (st u.au))∧w'.cell? ⟨w.heap.size,2,none⟩=some (.string (st u.pa))∧w'.cell? ⟨w.heap.size,3,none⟩=some (.string (st u.qu))∧w'.cell? ⟨w.heap.size,4,none⟩=some (.string (st u.fr))∧w'.cell? ⟨w.heap.size,5,none⟩=some (.bool u.hs)∧w'.cell? ⟨w.heap.size,6,none⟩=some (.bool u.ha)∧w'.cell? ⟨w.heap.size,7,none⟩=some (.bool u.hq)∧w'.cell? ⟨w.heap.size,8,none⟩=some (.bool u.hf)) (first | exact⟨s0,d0,d1,d2,d3,d4,d5,d6,d7,d8⟩ | exact jkeep (wk:=w6.drew) ⟨s0,d0,d1,d2,d3,d4,d5,d6,d7,d8⟩ hb7) (first | (go_at_call 197;refine(q20 _ _ hlen).mono ?_;rintro e w7 ⟨rfl,hb7⟩))
 all_goals
  go_wp2_with fail;go_ret2;refine⟨?_,hbl.drew.trans (hb7.mono (by have:=hbl.size;exact this))⟩;rw[← HJ.out];show _=Ending.returned (.tuple #[.string (st acc),.bool (Mg.split (Mg.join u) == u)]);rw[← HJ.out];rfl
end Go.Proofs.YtagleefekmdldaaGreatDoor
namespace Mk
theorem j2t (n:Nat):∀ m r,r.length≤n→r.length≤m→takeN n r=takeN m r:=by
 induction n with
 | zero =>
  intro m r h _;have:r=[]:=List.eq_nil_of_length_eq_zero (by omega);subst this
  cases m <;> rfl
 | succ n ih =>
  intro m r h hm
  cases r with
  | nil=>cases m <;> rfl
  | cons c t =>
   rw[List.length_cons] at h hm
   cases m with
   | zero=>omega
   | succ m =>
    simp only [takeN];have e1:((c :: t).drop (max 1 (sign (c :: t)).2.1)).length≤t.length:=by rw[List.length_drop,List.length_cons];omega
    rw[ih m _ (by omega) (by omega),ih m t (by omega) (by omega)]
theorem take_nil:take []=([],true):=rfl
theorem q3l (c:UInt8) (t:Bs) (h:c ≠ 38):take (c :: t)=(c :: (take t).1,(take t).2):=by
 show takeN (t.length + 1) (c :: t)=_;simp only [takeN];rw[if_neg h];rfl
theorem q9r (t:Bs):take (38 :: t)=((sign (38 :: t)).1++(take ((38 :: t).drop (max 1 (sign (38 :: t)).2.1))).1,(sign (38 :: t)).2.2 && (take ((38 :: t).drop (max 1 (sign (38 :: t)).2.1))).2):=by
 show takeN (t.length + 1) (38 :: t)=_;simp only [takeN];rw[if_pos trivial];have e1:((38 :: t).drop (max 1 (sign (38 :: t)).2.1)).length≤t.length:=by rw[List.length_drop,List.length_cons];omega
 rw[j2t t.length _ _ e1 (Lr)];rfl
theorem q9s (p:Bs):∀ r,(38:UInt8) ∉ p→take (p++r)=(p++(take r).1,(take r).2):=by
 induction p with
 | nil=>intro r _;rfl
 | cons c t ih =>
  intro r h;rw[List.mem_cons,not_or] at h;rw[List.cons_append,q3l c _ (fun e=>h.1 e.symm),ih r h.2];rfl
theorem j03 (p:Nat):(utf8 p).length≤4:=by
 unfold utf8
 split
 ·simp
 split
 ·simp
 split
 ·simp
 ·simp
theorem z6u {p l:Bs} (h:Mg.pre p l=true):p.length≤l.length:=by
 have h1:l.take p.length=p:=by simpa [Mg.pre] using h
 have:=congrArg List.length h1;rw[List.length_take] at this;omega
theorem q3i (l:Bs):(sign l).1.length≤4∧((sign l).2.1≤l.length):=by
 have hna:∀ c n,named l=some (c,n)→n≤l.length:=by
  intro c n e;unfold named at e
  split at e
  ·rename_i h;have:=z6u h;injection e with e;injection e with e1 e2;simp at this;omega
  split at e
  ·rename_i h;have:=z6u h;injection e with e;injection e with e1 e2;simp at this;omega
  split at e
  ·rename_i h;have:=z6u h;injection e with e;injection e with e1 e2;simp at this;omega
  split at e
  ·rename_i h;have:=z6u h;injection e with e;injection e with e1 e2;simp at this;omega
  split at e
  ·rename_i h;have:=z6u h;injection e with e;injection e with e1 e2;simp at this;omega
  ·cases e
 have hnu:∀ p n,numbered l=some (p,n)→n≤l.length:=by
  intro p n e;have hat:∀ x y z,numAt x y z l=some (p,n)→n≤l.length:=by
   intro x y z h;unfold numAt at h;simp only at h
   split at h
   ·cases h
   split at h
   ·rename_i h2
    injection h with h;injection h with h1 h3;have h4:(l.drop z).drop ((l.drop z).takeWhile (Y4 x)).length ≠ []:=by intro e;rw[e] at h2;cases h2
    have h5:=List.length_pos_iff.2 h4;rw[List.length_drop,List.length_drop] at h5;omega
   ·cases h
  unfold numbered at e
  split at e
  ·exact hat _ _ _ e
  split at e
  ·exact hat _ _ _ e
  ·cases e
 unfold sign
 cases ha:named l with
 | some x=>exact⟨by simp,hna x.1 x.2 ha⟩
 | none =>
  simp only
  cases hb:numbered l with
  | none=>exact⟨by simp,Nat.zero_le _⟩
  | some x =>
   simp only
   split
   ·exact⟨j03 _,hnu x.1 x.2 hb⟩
   ·exact⟨by simp,hnu x.1 x.2 hb⟩
end Mk
namespace Go.Proofs.YtagleefekmdldaaGreatDoor
open Go.Proofs.Tryz Go.RowKit

def strl:Value→Nat | .string b=>b.size | _=>0
theorem z8y (i:List UInt8):strl (.string (st i))=i.length:=rfl
theorem j1l (c:UInt8) (l:List UInt8) :
  (Lib.indexByte l c = -1∧c ∉ l) ∨
  ∃ k t,l=l.take k++c :: t∧Lib.indexByte l c=(k:Nat)∧c ∉ l.take k∧k≤l.length∧l.drop (k + 1)=t:=by
 induction l with
 | nil=>exact .inl ⟨rfl,by simp⟩
 | cons b l ih =>
  rw[Lib.indexByte]
  by_cases hc:b=c
  ·subst hc
   exact .inr ⟨0,l,by simp,by simp,by simp,by simp,by simp⟩
  ·have hb:(b == c)=false:=beq_eq_false_iff_ne.2 hc
   rw[hb]
   rcases ih with ⟨h1,h2⟩ | ⟨k,t,h1,h2,h3,h4,h5⟩
   ·left
    rw[h1];exact⟨by simp,by rw[List.mem_cons,not_or];exact⟨fun e=>hc e.symm,h2⟩⟩
   ·right
    refine⟨k + 1,t,by rw[List.take_succ_cons,List.cons_append,← h1],?_,?_,by simp;omega,by simpa using h5⟩
    ·rw[h2]
     have:((k:Int) == -1)=false:=by rw[beq_eq_false_iff_ne];omega
     rw[this];simp
    ·rw[List.take_succ_cons,List.mem_cons,not_or]
     exact⟨fun e=>hc e.symm,h3⟩
theorem z3l {T e:TypeId} {B b:Nat} {bs:List Value} {w w':World} (h:Lib.IsBuilder T e B b bs w) (hk:∀ k,k < w.heap.size→w'.heap[k]? = w.heap[k]?):Lib.IsBuilder T e B b bs w':=by
 have key:∀ p,Lib.BuilderAt T e B b p bs w→Lib.BuilderAt T e B b p bs w':=by
  intro p h;have hlt:=h.lt;obtain⟨hB,v,hb,hown,hne⟩:=h;refine⟨hB,v,(hk b hlt).trans hb,⟨hown.1,?_⟩,hne⟩
  rcases hown.2 with h0 | ⟨g,cap,cur,hv,hbg,hg,h4⟩
  ·exact .inl h0
  ·have hgl:g < w.heap.size:=by
    rcases Nat.lt_or_ge g w.heap.size with h' | h'
    ·exact h'
    ·simp[Array.getElem?_eq_none h'] at hg
   exact .inr ⟨g,cap,cur,hv,hbg,(hk g hgl).trans hg,h4⟩
 exact h.imp (key _) (key _)
theorem cut_amp (l:List UInt8):(Lib.cut l [38]=(l,[],false)∧(38:UInt8) ∉ l)∨∃ p t,l=p++38 :: t∧Lib.cut l [38]=(p,t,true)∧(38:UInt8) ∉ p:=by
 unfold Lib.cut;rw[Lib.index_one]
 rcases j1l 38 l with ⟨h1,h2⟩ | ⟨k,t,h1,h2,h3,h4,h5⟩
 ·left;rw[h1];exact⟨rfl,h2⟩
 ·right
  refine⟨l.take k,t,h1,?_,h3⟩;rw[h2,if_pos (by omega)];simp only [Int.toNat_natCast,List.length_singleton];rw[h5]

theorem q17 (s:ByteArray) (w:World) (hs:s.size≤1048576) (hg:Gl w) :
  Calls prog 88 #[.string s] w fun e w'=>e=.returned (.tuple #[.string (st (Mk.take s.data.toList).1),.bool (Mk.take s.data.toList).2])∧Below w.heap.size w w':=by
 have hbu:Lib.IsBuilder 110 5 w.heap.size w.heap.size (Lib.byteCells []) (w.alloc (.cells #[.pointer none,.slice none 0 0] 110)) :=
  .inl ⟨Lr,.slice none 0 0,heap_alloc_new w _,World.ownsRow_nil _ _ _ _,by simp[Value.ownBlock]⟩
 have hl0:=(Below.refl _ w).alloc (Lr) (.cells #[.pointer none,.slice none 0 0] 110);have hlt:=hg.lt;go_enter func88,ntmps88;go_wp2_with fail;change Code.wp _ _ _ _ (w.alloc (.cells #[.pointer none,.slice none 0 0] 110));generalize w.alloc (.cells #[.pointer none,.slice none 0 0] 110)=w0 at hbu hl0 ⊢
 go_loopw [0,5] (fun a c wr=>∃ (r o:List UInt8) (ab:Bool),a=.string (st r)∧c=.bool ab∧Hid (Lib.IsBuilder 110 5 w.heap.size w.heap.size (Lib.byteCells o) wr)∧Hid (Below w.heap.size w wr)∧o.length + 4 * r.length≤4 * s.size∧Hid ((o++(Mk.take r).1,ab && (Mk.take r).2)=Mk.take s.data.toList)) (fun a _ _=>strl a)
 case atStart=>exact⟨s.data.toList,[],true,rfl,rfl,hbu,hl0,by simp,by show _=_;simp⟩
 case round =>
  obtain⟨r,o,ab,rfl,rfl,BU,BL,hlen,hx⟩:=hrel;have hst:∀ l,(st l).toList=l:=fun l=>Lib.toList_data _
  have hsz:=BL.out.size
  by_cases hr:r=[]
  ·subst hr
   have FIN:Hid (Mk.take s.data.toList=(o,ab)):=by show _=_;rw[← hx.out,Mk.take_nil];simp
   clear hx;go_wp2_with fail;refine(Tryz.Builder_String_any w.heap.size w.heap.size _ _ BU.out hsz).mono ?_;rintro e wz ⟨rfl,hbz⟩;have lz:=BL.out.trans hbz;clear hbz BU BL;go_wp2_with fail;go_ret2;exact⟨by rw[FIN.out];rfl,lz⟩
  have he:r.isEmpty=false:=by
   cases r with
   | nil=>exact absurd rfl hr
   | cons _ _=>rfl
  have hgr:=hg.below BL.out hlt;obtain⟨m,hm⟩:=hgr.ml;have hcut:=Tryz.strings_Cut (st r) (st [38]) m wr (by rw[y9];omega) hm;rw[show (st r).data.toList=r from rfl,show (st [38]).data.toList=[38] from rfl] at hcut;have HCUT:=Ld hcut;have HG:=Ld hgr;clear hcut hm hgr hr
  rcases cut_amp r with ⟨hc,hno⟩ | ⟨p,q,hpq,hc,hno⟩
  ·have FIN:Hid (Mk.take s.data.toList=(o++r,ab)):=by
    show _=_;have h:=Mk.q9s r [] hno;rw[List.append_nil,Mk.take_nil] at h;rw[← hx.out,h];simp
   rw[hc] at HCUT;change Hid (Calls _ _ _ _ fun e w'=>e=.returned (.tuple #[.string (st r),.string (st []),.bool false])∧∃ n,w'=wr.drewN n) at HCUT;clear hx hc hno;go_wp2_with fail;refine HCUT.out.mono ?_;rintro e w1 ⟨rfl,n1,rfl⟩;have BU1:Hid (Lib.IsBuilder 110 5 w.heap.size w.heap.size (Lib.byteCells o) (wr.drewN n1)):=BU.out;go_wp2_with fail;refine(z0w w.heap.size w.heap.size _ (st r) _ BU1.out (by rw[Lib.byteCells_length,y9];omega) hsz).mono ?_;rintro e w2 ⟨rfl,hb2,hl2⟩;have BU2:Hid (Lib.IsBuilder 110 5 w.heap.size w.heap.size (Lib.byteCells (o++r)) w2):=by
    show Lib.IsBuilder _ _ _ _ _ _;rw[Lib.byteCells_append];exact .inr hb2
   have BL2:Hid (Below w.heap.size w w2):=(below_drewN BL.out n1).trans hl2;clear hb2 hl2 BU1 BU BL;have hsz2:=BL2.out.size;go_wp2_with fail;refine(Tryz.Builder_String_any w.heap.size w.heap.size _ _ BU2.out hsz2).mono ?_;rintro e wz ⟨rfl,hbz⟩;have lz:=BL2.out.trans hbz;clear hbz BU2 BL2;go_wp2_with fail;go_ret2;exact⟨by rw[FIN.out];rfl,lz⟩
  ·obtain⟨g1,g2⟩:=Mk.q3i (38 :: q)
   have hpl:r.length=p.length + (q.length + 1):=by rw[hpq,List.length_append,List.length_cons]
   obtain⟨x,hxe⟩:∃ x,Mk.sign (38 :: q)=x:=⟨_,rfl⟩;have HX:Hid ((o++p++x.1++(Mk.take ((38 :: q).drop (max 1 x.2.1))).1,(ab && x.2.2) && (Mk.take ((38 :: q).drop (max 1 x.2.1))).2)=Mk.take s.data.toList):=by
    show _=_;rw[← hx.out,hpq,Mk.q9s p _ hno,Mk.q9r,hxe];simp[Bool.and_assoc]
   have hsg:=fun W hG=>esc_sign (st (38 :: q)) W (by rw[y9,List.length_cons];omega) hG
   rw[show (st (38 :: q)).data.toList=38 :: q from rfl,hxe] at hsg;rw[hxe,List.length_cons] at g2;rw[hxe] at g1;have HSG:=Ld hsg;rw[hc] at HCUT;change Hid (Calls _ _ _ _ fun e w'=>e=.returned (.tuple #[.string (st p),.string (st q),.bool true])∧∃ n,w'=wr.drewN n) at HCUT;clear hx hc hno hpq hxe hsg;go_wp2_with fail;refine HCUT.out.mono ?_;rintro e w1 ⟨rfl,n1,rfl⟩;have BU1:Hid (Lib.IsBuilder 110 5 w.heap.size w.heap.size (Lib.byteCells o) (wr.drewN n1)):=BU.out;go_wp2_with fail;refine(z0w w.heap.size w.heap.size _ (st p) _ BU1.out (by rw[Lib.byteCells_length,y9];omega) hsz).mono ?_;rintro e w2 ⟨rfl,hb2,hl2⟩;have BU2:Hid (Lib.IsBuilder 110 5 w.heap.size w.heap.size (Lib.byteCells (o++p)) w2):=by
    show Lib.IsBuilder _ _ _ _ _ _;rw[Lib.byteCells_append];exact .inr hb2
   have BL2:Hid (Below w.heap.size w w2):=(below_drewN BL.out n1).trans hl2;clear hb2 hl2 BU1 BU BL;have hsz2:=BL2.out.size;have hcz:¬ 9223372036854775807 < (⟨#[38]⟩:ByteArray).size + (st q).size:=by rw[y9,show (⟨#[38]⟩:ByteArray).size=1 from rfl];omega
   go_wp2_with fail;rw[show (⟨#[38]⟩:ByteArray)++st q=st (38 :: q) from z19 (st [38]) (st q)];refine(HSG.out _ (hg.below BL2.out hlt)).mono ?_;rintro e w3 ⟨rfl,hb3⟩;obtain⟨x1,n,right⟩:=x;have BU3:Hid (Lib.IsBuilder 110 5 w.heap.size w.heap.size (Lib.byteCells (o++p)) w3):=z3l BU2.out hb3.block;have BL3:Hid (Below w.heap.size w w3):=BL2.out.trans (hb3.mono hsz2);clear hb3 BU2 BL2 hsz2 HSG HCUT hcz;have hsz3:=BL3.out.size;have g3:n≤q.length + 1:=g2;have g4:x1.length≤4:=g1;unfold signV
   cases ab
   all_goals
    go_wp2_with fail;refine(z0w w.heap.size w.heap.size _ (st x1) _ BU3.out (by rw[Lib.byteCells_length,y9,List.length_append];omega) hsz3).mono ?_;rintro e w4 ⟨rfl,hb4,hl4⟩;have BU4:Hid (Lib.IsBuilder 110 5 w.heap.size w.heap.size (Lib.byteCells (o++p++x1)) w4):=by
     show Lib.IsBuilder _ _ _ _ _ _;rw[Lib.byteCells_append];exact .inr hb4
    have BL4:Hid (Below w.heap.size w w4):=BL3.out.trans hl4;clear hb4 hl4;have hq1:((n:Int) - 1)≤(st q).size:=by rw[y9];omega
    by_cases hn0:n=0
    ·subst hn0
     go_wp2_with fail;go_roundw
     case rel=>exact⟨q,o++p++x1,_,by rw[z0c];rfl,rfl,BU4,BL4,by rw[List.length_append,List.length_append];omega,HX⟩
     case measure =>
      have hz:(st r).size=p.length + (q.length + 1):=hpl
      first
       | (rw[z0c,z8y,z8y,z0b];rw[List.length_drop];omega)
       | (rw[z8y,z8y];omega)
    ·obtain⟨j,rfl⟩:∃ j,n=j + 1:=⟨n - 1,by omega⟩
     have hj:(j:Int)≤(st q).size:=by rw[y9];omega
     rw[show max 1 (j + 1)=j + 1 by omega] at HX;go_wp2_with fail;go_roundw
     case rel=>exact⟨q.drop j,o++p++x1,_,by rw[z0c];rfl,rfl,BU4,BL4,by rw[List.length_append,List.length_append,List.length_drop];omega,HX⟩
     case measure =>
      rw[z0c,z8y,z8y,z0b,List.length_drop];omega
end Go.Proofs.YtagleefekmdldaaGreatDoor
namespace Mk
def sepB (c:UInt8):Bool:=white c || c == 47
theorem dropWhile_le (q:UInt8→Bool) (l:Bs):(l.dropWhile q).length≤l.length:=(List.dropWhile_sublist q).length_le
theorem j3c {r v u:Bs} (h:valueOf r=some (v,u)):u.length≤r.length:=by
 have h0:=dropWhile_le white r;unfold valueOf at h
 split at h
 ·injection h with h;injection h with h1 h2;subst h2;exact Nat.zero_le _
 ·rename_i q t hd
  rw[hd] at h0
  split at h
  ·split at h
   ·cases h
   ·rename_i x u' hu
    injection h with h;injection h with h1 h2;subst h2;have:=dropWhile_le (· != q) t;rw[hu] at this;simp at this h0;omega
  ·injection h with h;injection h with h1 h2;subst h2
   exact Nat.le_trans (dropWhile_le _ _) h0
theorem q72 {r v u:Bs} (h:valueOf r=some (v,u)):v.length≤r.length:=by
 have h0:=dropWhile_le white r;unfold valueOf at h
 split at h
 ·injection h with h;injection h with h1 h2;subst h1;exact Nat.zero_le _
 ·rename_i q t hd
  rw[hd] at h0
  split at h
  ·split at h
   ·cases h
   ·injection h with h;injection h with h1 h2;subst h1
    have:=z2j (· != q) t;simp at this h0 ⊢;omega
  ·injection h with h;injection h with h1 h2;subst h1
   exact Nat.le_trans (z2j _ _) h0
def z1q (r3:Bs):Option (Bs × Bs):=if Mg.isAt 61 r3 then (valueOf r3.tail).map (fun x=>((take x.1).1,x.2)) else some ([],r3)
theorem q1s {r v u:Bs} (h:z1q r=some (v,u)):u.length≤r.length:=by
 unfold z1q at h
 split at h
 ·cases hv:valueOf r.tail with
  | none=>rw[hv] at h;cases h
  | some x =>
   rw[hv] at h;injection h with h;have h1:x.2=u:=congrArg Prod.snd h;have h2:=j3c (v:=x.1) (u:=x.2) hv;rw[h1,List.length_tail] at h2;omega
 ·injection h with h;injection h with h1 h2;subst h2;exact Lr
def z8r (nm v:Bs) (out:List At):List At:=if isName nm && !z1d out nm then out++[⟨nm,v⟩] else out
theorem z4o (n:Nat) (r:Bs) (out:List At):z01 (n + 1) r out=(match r.dropWhile sepB with
  | []=>none
  | c :: t=>if c=62 then some (out,t) else
   match z1q ((t.dropWhile Y6).dropWhile white) with
   | none=>none
   | some (v,r4)=>z01 n r4 (z8r (Mg.fold (c :: t.takeWhile Y6)) v out)):=by
 rfl
theorem z4n:∀ (n m:Nat) (r:Bs) (out:List At),r.length < n→r.length < m→z01 n r out=z01 m r out:=by
 intro n
 induction n with
 | zero=>intro m r out h _;omega
 | succ n ih =>
  intro m r out h hm
  cases m with
  | zero=>omega
  | succ m =>
   rw[z4o,z4o];have h0:=dropWhile_le sepB r
   cases hd:r.dropWhile sepB with
   | nil=>rfl
   | cons c t =>
    rw[hd,List.length_cons] at h0;simp only
    split
    ·rfl
    cases hr:z1q ((t.dropWhile Y6).dropWhile white) with
    | none=>rfl
    | some x =>
     obtain⟨v,r4⟩:=x;have h1:=q1s hr;have h2:=dropWhile_le white (t.dropWhile Y6);have h3:=dropWhile_le Y6 t;exact ih m r4 _ (by omega) (by omega)
def z98 (r:Bs) (out:List At):Option (List At × Bs):=z01 (r.length + 1) r out
theorem q5h (r:Bs) (out:List At):z98 r out=(match r.dropWhile sepB with
  | []=>none
  | c :: t=>if c=62 then some (out,t) else
   match z1q ((t.dropWhile Y6).dropWhile white) with
   | none=>none
   | some (v,r4)=>z98 r4 (z8r (Mg.fold (c :: t.takeWhile Y6)) v out)):=by
 unfold z98;rw[z4o];have h0:=dropWhile_le sepB r
 cases hd:r.dropWhile sepB with
 | nil=>rfl
 | cons c t =>
  rw[hd,List.length_cons] at h0;simp only
  split
  ·rfl
  cases hr:z1q ((t.dropWhile Y6).dropWhile white) with
  | none=>rfl
  | some x =>
   obtain⟨v,r4⟩:=x;have h1:=q1s hr;have h2:=dropWhile_le white (t.dropWhile Y6);have h3:=dropWhile_le Y6 t;exact z4n _ _ r4 _ (by omega) (by omega)
end Mk
namespace Go.Proofs.YtagleefekmdldaaGreatDoor
open Go.Proofs.Tryz Go.RowKit
theorem q7b (P:Nat) (nm:List UInt8) (l:List Mk.At) (w:World) (hP:P < w.heap.size) (hc:w.cell? ⟨P,0,none⟩=some (.string (st nm))):j0b 163 #[.pointer (some ⟨P,0,none⟩)] (fun a=>a.n == nm) l w:=by
 intro w1 hb a _;have c0:w1.cell? ⟨P,0,none⟩=some (.string (st nm)):=(hb.cell (p:=⟨P,0,none⟩) hP).trans hc;have hP1:P < w1.heap.size:=Nat.lt_of_lt_of_le hP hb.size;unfold atV;go_enter func163,ntmps163;go_wp2_with fail;go_ret;exact⟨Z8 (by rw[show (st a.n).toList=a.n from Lib.toList_data _,show (st nm).toList=nm from Lib.toList_data _]),(Below.refl _ w1).alloc (Lr) _⟩
theorem j4m (args:Array Value) (w:World):(callFunc 163 args).run prog w=.ok (.enter 163 args) w:=Z7 func163 (by kernel_rfl) rfl _ _
theorem Gl.ap {S:Nat→Prop} {w w':World} (h:Gl w) (ha:Ap S w w') (h0:¬ S 0) (h1:¬ S 1):Gl w':=by
 have hlt:=h.lt;obtain⟨m,hm⟩:=h.ml;obtain⟨ev,he,hv⟩:=h.es;exact⟨⟨m,(cell_of_block (ha.block 0 (by omega) h0) 0).trans hm⟩,ev,(cell_of_block (ha.block 1 hlt h1) 0).trans he,hv⟩
theorem z1a {S:Nat→Prop} {w w':World} {B size n:Nat} {e:TypeId} {v:Value} {xs:List Value} (h:w.ownsRow B e size v n xs) (ha:Ap S w w') (hS:∀ g,B≤g→¬ S g):w'.ownsRow B e size v n xs:=by
 refine⟨h.1,h.2.imp id ?_⟩;rintro ⟨g,cap,cur,h1,h2,h3,h4⟩;have hlt:g < w.heap.size:=by
  rcases Nat.lt_or_ge g w.heap.size with h' | h'
  ·exact h'
  ·rw[Array.getElem?_eq_none h'] at h3;cases h3
 exact⟨g,cap,cur,h1,h2,(ha.block g hlt (hS g h2)).trans h3,h4⟩
theorem Tryz.infoAttr:(prog.info? 73).map (fun i=>(i.zero,i.size,i.bytes))=some (some (.agg #[.string ⟨#[]⟩,.string ⟨#[]⟩]),2,32):=by kernel_rfl
theorem Y9 (w:World) (t:TypeId) (cs:Array Value) (j:Nat) (u:Value) (h:cs.toList[j]? = some u):(w.alloc (.cells cs t)).cell? ((⟨w.heap.size,0,none⟩:Addr).add j)=some u:=by
 have e1:(⟨w.heap.size,0,none⟩:Addr).add j=⟨w.heap.size,j,none⟩:=by unfold Addr.add;split <;> simp_all
 rw[e1,Blk.cell (Blk.new w t cs) j,← h];simp
theorem j4v (l:List UInt8):Mk.z4b (fun c=>c == 61) l=Mg.isAt 61 l:=by cases l <;> rfl
theorem Blk.ap {S:Nat→Prop} {w w':World} {g:Nat} {t:TypeId} {cs:Array Value} (h:Blk w g t cs) (ha:Ap S w w') (hS:¬ S g):Blk w' g t cs:=(ha.block g h.lt hS).trans h
theorem Ap.setNew {S:Nat→Prop} {a b:World} (h:Ap S a b) {p:Addr} (hp:a.heap.size≤p.block) (v:Value):Ap S a (b.setCell p v) :=
 ⟨h.os,h.tape,h.output,by have:=h.size;simpa [World.setCell] using this,fun k hk hs=>(Below.heap_setCell b p v k (by omega)).trans (h.block k hk hs)⟩
section
variable {w : World} {R : Nat} {s : ByteArray} {k : Nat} {tx : List UInt8} {ov : Value}
theorem rd_attrs (hg:Gl w) (hR:1 < R) (h:Rd w R s k tx ov) (hk:k≤s.size) (hs:s.size≤1048576) :
  Calls prog 143 #[.pointer (some ⟨R,0,none⟩)] w fun e w' =>
   (Mk.z1c (s.data.toList.drop k)=none∧e=Gave∧(∃ j,Rd w' R s j tx ov)∧Ap (fun b=>b=R) w w') ∨
   ∃ l r j v,Mk.z1c (s.data.toList.drop k)=some (l,r)∧e=.returned v∧w'.ownsRow w.heap.size 73 2 v l.length (Z5 l)∧j≤s.size∧k < j∧l.length≤s.size∧r=s.data.toList.drop j∧Rd w' R s j tx ov∧Ap (fun b=>b=R) w w':=by
 have hRlt:=Blk.lt h;have hglt:=hg.lt;have hR0:¬ ((fun b=>b=R) 0):=by intro e;have e:(0:Nat)=R:=e;omega
 have hR1:¬ ((fun b=>b=R) 1):=by intro e;have e:(1:Nat)=R:=e;omega
 have hBR:∀ g,w.heap.size≤g→¬ ((fun b=>b=R) g):=by intro g hg' e;have e:g=R:=e;omega
 have HBR:=Ld hBR;clear hBR;go_enter func143,ntmps143;go_wp2_with fail
 go_loopw [3] (fun o wr=>∃ j out,k≤j∧j≤s.size∧out.length≤j∧Hid (Mk.z1c (s.data.toList.drop k)=Mk.z98 (s.data.toList.drop j) out)∧Hid (Rd wr R s j tx ov)∧Hid (Ap (fun b=>b=R) w wr)∧Hid (wr.ownsRow w.heap.size 73 2 o out.length (Z5 out))) (fun _ wr=>s.size - atOf wr R)
 case atStart=>exact⟨k,[],Lr,hk,Nat.zero_le _,rfl,h,Ap.refl _ _,World.ownsRow_nil _ _ _ _⟩
 case round =>
  obtain⟨j,out,hkj,hj,hol,HA,RD,AP,OW⟩:=hrel;have hatj:=RD.out.atOf;have HATJ:=Ld hatj;clear hatj;have hsz:=AP.out.size;have e1:=adv s j Mk.sepB;have l1:=z5n s j hj Mk.sepB;have HP:=Ld (z3v 158 #[] Mk.sepB j4j RD.out hj hs (fun w' _=>q78 w'));obtain⟨j1,hj1⟩:∃ j1,j1=j + ((s.data.toList.drop j).takeWhile Mk.sepB).length:=⟨_,rfl⟩;rw[← hj1] at e1 l1 HP;have hjj1:j≤j1:=by omega
  rw[Mk.q5h,← e1] at HA;clear e1 hj1
  rcases Nat.lt_or_ge j1 s.size with hlt | hge
  ·rw[X6 s j1 hlt] at HA
   obtain⟨c,hc⟩:∃ c:UInt8,s[j1]=c:=⟨_,rfl⟩;rw[hc] at HA;have HCC:=Ld hc;clear hc;simp only at HA;go_wp2_with fail;refine HP.out.mono ?_;rintro e w1 ⟨rfl,RD1,MV1⟩;have AP1:=AP.out.trans MV1.ap;have hn:=z8t RD1 hlt hs;rw[HCC.out] at hn;have hb:(c.toNat:Int)≤255:=by have:=c.toNat_lt;omega
   by_cases h62:c=62
   ·subst h62
    rw[if_pos rfl] at HA;have HN:=Ld hn;clear hn;go_wp2_with fail;refine HN.out.mono ?_;rintro e w2 ⟨rfl,RD2,MV2⟩;have OW2:=Ld (z1a (z1a OW.out MV1.ap HBR.out) MV2.ap HBR.out);have AP2:=Ld (AP1.trans MV2.ap);go_wp2_with fail;go_ret;exact .inr ⟨out,_,j1 + 1,_,HA.out,rfl,OW2.out,hlt,by omega,by omega,rfl,RD2,AP2.out⟩
   ·have hne:((c.toNat:Int) == 62)=false:=by rw[beq_eq_false_iff_ne];intro e;exact h62 (UInt8.toNat_inj.1 (by show c.toNat=62;omega))
    rw[if_neg h62] at HA;have HN:=Ld hn;clear hn;go_wp2_with fail;refine HN.out.mono ?_;rintro e w2 ⟨rfl,RD2,MV2⟩;have d1:=RD2.c1;go_wp2_with fail;have e2:=adv s (j1 + 1) Mk.Y6;have l2:=z5n s (j1 + 1) hlt Mk.Y6;have hp2:=z3v 160 #[] Mk.Y6 j4k RD2 hlt hs (fun w' _=>q79 w');obtain⟨j2,hj2⟩:∃ j2,j2=j1 + 1 + ((s.data.toList.drop (j1 + 1)).takeWhile Mk.Y6).length:=⟨_,rfl⟩;have hnm:(s.extract j1 j2).data.toList=c :: (s.data.toList.drop (j1 + 1)).takeWhile Mk.Y6:=by
     rw[Z4,z0b,X6 s j1 hlt,HCC.out,show j2 - j1=((s.data.toList.drop (j1 + 1)).takeWhile Mk.Y6).length + 1 by omega,List.take_succ_cons]
     congr 1
     exact(List.prefix_iff_eq_take.1 (List.takeWhile_prefix _)).symm
    rw[← hj2] at e2 l2 hp2;have hjj2:j1 + 1≤j2:=by omega
    rw[← e2,← hnm] at HA;have HNM:=Ld hnm;clear e2 hj2 hnm HP HN;refine hp2.mono ?_;rintro e w3 ⟨rfl,RD3,MV3⟩;have AP3:=(AP1.trans MV2.ap).trans MV3.ap;have OW3:=Ld (z1a (z1a (z1a OW.out MV1.ap HBR.out) MV2.ap HBR.out) MV3.ap HBR.out);clear OW;have hlt3:R < w3.heap.size:=Blk.lt RD3;have hsz3:w.heap.size≤w3.heap.size:=AP3.size;clear RD1 RD2 MV1 MV2 MV3 AP1 hp2 d1;have d0:=RD3.c0;have d1:=RD3.c1;have hle1:(j1:Int)≤j2:=by omega
    have hle2:(j2:Int)≤s.size:=by omega
    have hfo:=fun W=>q1j (s.extract j1 j2) W (by rw[← bs_len,Z4,z0b,List.length_take,List.length_drop,bs_len];omega)
    have HFO:=Ld hfo;clear hfo;go_upto_region 7 with fail;obtain⟨nm,hnm⟩:∃ nm,Mg.fold (s.extract j1 j2).data.toList=nm:=⟨_,rfl⟩;rw[hnm] at HA HFO;have hnml:nm.length≤1048576:=by
     have:=HNM.out;rw[← hnm,Mg.fold,List.length_map,Z4,z0b,List.length_take,List.length_drop,bs_len];omega
    clear HNM hnm
    go_cut [5] (fun p wx=>∃ P,p=.pointer (some ⟨P,0,none⟩)∧w.heap.size≤P∧u3.ownBlock ≠ some P∧Hid (wx.ownsRow w.heap.size 73 2 u3 out.length (Z5 out))∧Hid (Blk wx P 73 #[.string (st nm),.string ⟨#[]⟩])∧Hid (Ap (fun b=>b=R) w wx)∧Hid (Rd wx R s j2 tx ov))
    case first =>
     have hk2:∀ W,Below (R + 1) w3.drew W→W.cell? ⟨R,0,none⟩=some (.string s)∧W.cell? ⟨R,1,none⟩=some (.int .i64 j2):=fun W hW=>⟨(hW.cell (p:=⟨R,0,none⟩) (Nat.lt_succ_self R)).trans d0,(hW.cell (p:=⟨R,1,none⟩) (Nat.lt_succ_self R)).trans d1⟩
     have hlt4:R + 1≤w3.drew.heap.size:=hlt3;have HK2:=Ld hk2;clear hk2
     go_region_held3 (fun w'=>w'.cell? ⟨R,0,none⟩=some (.string s)∧w'.cell? ⟨R,1,none⟩=some (.int .i64 j2)) (first
      | exact HK2.out _ (Below.refl _ _)
      | exact HK2.out _ (hb7.mono hlt4)
      | exact HK2.out _ ((hb7.mono hlt4).alloc (Nat.le_trans hlt4 hb7.size) _)
      | exact HK2.out _ ((Below.refl _ _).alloc hlt4 _)
      | exact HK2.out _ (((Below.refl _ _).alloc hlt4 _).trans (hb7.mono (Nat.le_trans hlt4 (by simp))))
      | exact HK2.out _ (((((Below.refl _ _).alloc hlt4 _).trans (hb7.mono (Nat.le_trans hlt4 (by simp)))).setCell (p:=⟨w3.heap.size,0,none⟩) hlt4 _).setCell (p:=⟨w3.heap.size,1,none⟩) hlt4 _)
      | fail "NO KEEP") (first | (go_at_call 140; refine (HFO.out _).mono ?_; rintro e w7 ⟨rfl, hb7⟩; (try have n0 : w7.cell? ⟨w3.heap.size, 0, none⟩ = some (.string ⟨#[]⟩) := (hb7.cell (p := ⟨w3.heap.size, 0, none⟩) (by simp)).trans (Blk.cell (Blk.new w3.drew _ _) 0)); (try have n1 : w7.cell? ⟨w3.heap.size, 1, none⟩ = some (.string ⟨#[]⟩) := (hb7.cell (p := ⟨w3.heap.size, 1, none⟩) (by simp)).trans (Blk.cell (Blk.new w3.drew _ _) 1)); (try have nf0 : w7.frozen? ⟨w3.heap.size, 0, none⟩ = false := (hb7.frozen (p := ⟨w3.heap.size, 0, none⟩) (by simp)).trans (Blk.frozen (Blk.new w3.drew 73 #[.string ⟨#[]⟩, .string ⟨#[]⟩]) 0)); (try have nf1 : w7.frozen? ⟨w3.heap.size, 1, none⟩ = false := (hb7.frozen (p := ⟨w3.heap.size, 1, none⟩) (by simp)).trans (Blk.frozen (Blk.new w3.drew 73 #[.string ⟨#[]⟩, .string ⟨#[]⟩]) 1))))
     ·have a7:Ap (fun b=>b=R) w w7:=(AP3.drew).trans (Ap.of_below hb7)
      have r7:Rd w7 R s j2 tx ov:=(hb7.block R hlt3).trans RD3;have r8:w.heap.size≤w7.heap.size:=a7.size;have a8:Ap (fun b=>b=R) w3 w7:=((Ap.refl _ w3).drew).trans (Ap.of_below hb7);have ow8:=z1a OW3.out a8 HBR.out;have ob8:u3.ownBlock ≠ some w7.heap.size:=fun e=>by have:=(ow8.lt _ e).2;omega
      have ow9:=Ld (z1a ow8 ((Ap.refl (fun b=>b=R) w7).alloc (.cells #[.string (st nm),.string ⟨#[]⟩] 73)) HBR.out);have ob8:=Ld ob8;clear ow8;go_wp2_with fail;go_meet
      case rel=>exact⟨w7.heap.size,rfl,r8,ob8.out,ow9,Blk.new w7 _ _,a7.alloc _,Blk.alloc r7 _⟩
     ·have a7:Ap (fun b=>b=R) w w7:=((AP3.alloc (.cells #[.string ⟨#[]⟩,.string ⟨#[]⟩] 73)).drew).trans (Ap.of_below hb7)
      have r7:Rd w7 R s j2 tx ov:=(hb7.block R (by simp;omega)).trans (Blk.alloc RD3 (.cells #[.string ⟨#[]⟩,.string ⟨#[]⟩] 73));have b7:Blk w7 w3.heap.size 73 #[.string ⟨#[]⟩,.string ⟨#[]⟩]:=(hb7.block w3.heap.size (by simp)).trans (Blk.new w3 _ _);have hne3:R ≠ w3.heap.size:=by omega
      have a8:Ap (fun b=>b=R) w3 w7:=(((Ap.refl _ w3).alloc (.cells #[.string ⟨#[]⟩,.string ⟨#[]⟩] 73)).drew).trans (Ap.of_below hb7);have ob8:u3.ownBlock ≠ some w3.heap.size:=fun e=>by have:=(OW3.out.lt _ e).2;omega
      have ow9:=Ld (ownsRow_setCell_other (ownsRow_setCell_other (z1a OW3.out a8 HBR.out) (a:=⟨w3.heap.size,0,none⟩) ob8 (.string (st nm))) (a:=⟨w3.heap.size,1,none⟩) ob8 (.string ⟨#[]⟩));have ob8:=Ld ob8;go_wp2_with fail;go_meet
      case rel=>exact⟨w3.heap.size,rfl,hsz3,ob8.out,ow9,(b7.set_ 0 _).set_ 1 _,(a7.setNew (p:=⟨w3.heap.size,0,none⟩) hsz3 _).setNew (p:=⟨w3.heap.size,1,none⟩) hsz3 _,Blk.far (Blk.far r7 (p:=⟨w3.heap.size,0,none⟩) hne3 _) (p:=⟨w3.heap.size,1,none⟩) hne3 _⟩
    case rest =>
     obtain⟨P,rfl,hP,hOP,OWx,PB,APx,RDx⟩:=hcut;have HOP:=Ld hOP;clear hOP OW3;have hPR:P ≠ R:=by omega
     have e3:=adv s j2 Mk.white;have l3:=z5n s j2 l2 Mk.white;have hp3:=z3v 142 #[] Mk.white q43 RDx.out l2 hs (fun w' _=>z8f w');obtain⟨j3,hj3⟩:∃ j3,j3=j2 + ((s.data.toList.drop j2).takeWhile Mk.white).length:=⟨_,rfl⟩;rw[← hj3] at e3 l3 hp3;have hjj3:j2≤j3:=by omega
     rw[← e3] at HA;have HP3:=Ld hp3;clear e3 hj3 hp3 d0 d1 RD3 AP3 hlt3 hsz3 hle1 hle2 HFO;go_wp2_with fail;refine HP3.out.mono ?_;rintro e w5 ⟨rfl,RD5,MV5⟩;have AP5:=Ld (APx.out.trans MV5.ap);have PB5:=Ld (PB.out.ap MV5.ap hPR);have RD5:=Ld RD5;have OW5:=Ld (z1a OWx.out MV5.ap HBR.out);clear OWx HP3 MV5 PB APx RDx;have hh:=fun n=>q4p 161 #[] (fun c=>c == 61) j4l (RD5.out.drewN n) (fun m=>q7a _)
     rw[j4v] at hh;have HH:=Ld hh;clear hh;obtain⟨bb,hbb⟩:∃ bb,Mg.isAt 61 (s.data.toList.drop j3)=bb:=⟨_,rfl⟩;rw[hbb] at HH;have HBB:=Ld hbb;clear hbb;go_wp2_with fail;refine(HH.out 0).mono ?_;rintro e w6 ⟨rfl,n,rfl⟩;have AP6:Hid (Ap (fun b=>b=R) w (((w5).drewN 0).drewN n)):=AP5.out.drewN n;have PB6:Hid (Blk (((w5).drewN 0).drewN n) P 73 #[.string (st nm),.string ⟨#[]⟩]):=PB5.out;have RD6:Hid (Rd (((w5).drewN 0).drewN n) R s j3 tx ov):=RD5.out;have OW6:Hid ((((w5).drewN 0).drewN n).ownsRow w.heap.size 73 2 u3 out.length (Z5 out)):=OW5.out;generalize (((w5).drewN 0).drewN n)=w6 at AP6 PB6 RD6 OW6 ⊢;clear OW5;clear HH AP5 PB5 RD5;go_upto_if 34 with fail
     go_cut [34] (fun _ wx=>∃ j4 v,j3≤j4∧j4≤s.size∧Hid (wx.ownsRow w.heap.size 73 2 u3 out.length (Z5 out))∧Hid (Mk.z1q (s.data.toList.drop j3)=some (v,s.data.toList.drop j4))∧Hid (Blk wx P 73 #[.string (st nm),.string (st v)])∧Hid (Ap (fun b=>b=R) w wx)∧Hid (Rd wx R s j4 tx ov))
     case first =>
      cases bb with
      | false =>
       have HR:Hid (Mk.z1q (s.data.toList.drop j3)=some ([],s.data.toList.drop j3)):=by show _=_;rw[Mk.z1q,HBB.out];rfl
       clear HBB;go_wp2_with fail;go_meet
       case rel=>exact⟨j3,[],Lr,l3,OW6,HR,PB6,AP6,RD6⟩
      | true =>
       have hlt5:j3 < s.size:=by
        rcases Nat.lt_or_ge j3 s.size with h1 | h1
        ·exact h1
        ·have:=HBB.out;rw[List.drop_of_length_le (by simp;omega)] at this;cases this
       have HR:Hid (Mk.z1q (s.data.toList.drop j3)=(Mk.valueOf (s.data.toList.drop (j3 + 1))).map (fun x=>((Mk.take x.1).1,x.2))):=by show _=_;rw[Mk.z1q,HBB.out,if_pos rfl,List.tail_drop]
       clear HBB;have c1:=RD6.out.c1;have f1:=RD6.out.fz 1;go_wp2_with fail;have RD7:Hid (Rd (w6.setCell ⟨R,1,none⟩ (.int .i64 ((j3:Int) + 1))) R s (j3 + 1) tx ov):=by show Rd _ _ _ _ _ _;have:=RD6.out.at_ (j3 + 1);simpa using this
       have AP7:Hid (Ap (fun b=>b=R) w (w6.setCell ⟨R,1,none⟩ (.int .i64 ((j3:Int) + 1)))):=AP6.out.setCell (p:=⟨R,1,none⟩) rfl _;have PB7:Hid (Blk (w6.setCell ⟨R,1,none⟩ (.int .i64 ((j3:Int) + 1))) P 73 #[.string (st nm),.string ⟨#[]⟩]):=PB6.out.far (p:=⟨R,1,none⟩) hPR _;have OW7:Hid ((w6.setCell ⟨R,1,none⟩ (.int .i64 ((j3:Int) + 1))).ownsRow w.heap.size 73 2 u3 out.length (Z5 out)):=z1a OW6.out ((Ap.refl (fun b=>b=R) w6).setCell (p:=⟨R,1,none⟩) rfl _) HBR.out;generalize (w6.setCell ⟨R,1,none⟩ (.int .i64 ((j3:Int) + 1)))=w7 at RD7 AP7 PB7 OW7 ⊢;clear OW6;clear RD6 AP6 PB6 c1 f1;refine(rd_value RD7.out (by omega) hs).mono ?_;rintro e w8 (⟨hvn,rfl,⟨jj,hrd8⟩,ha8⟩ | ⟨v,r,j4,hvs,rfl,hj4s,hj4,hr,hrd8,ha8⟩)
       ·rw[HR.out,hvn] at HA
        have HA2:Hid (Mk.z1c (s.data.toList.drop k)=none):=HA;have AP8:=Ld (AP7.out.trans ha8);clear HA HR RD7 AP7 PB7 hvn ha8 OW7 RD AP HATJ;go_wp2_with fail;exact⟨rfl,.inl ⟨HA2.out,rfl,⟨_,hrd8⟩,AP8.out⟩⟩
       ·have hvl:=Mk.q72 hvs
        rw[List.length_drop,bs_len] at hvl;have HR2:Hid (Mk.z1q (s.data.toList.drop j3)=some ((Mk.take v).1,s.data.toList.drop j4)):=by show _=_;rw[HR.out,hvs,hr];rfl
        have AP8:=Ld (AP7.out.trans ha8);have PB8:=Ld (Blk.ap PB7.out ha8 hPR);have OW8:=Ld (z1a OW7.out ha8 HBR.out);have RD8:=Ld hrd8;have hg8:=hg.ap AP8.out hR0 hR1;have ht:=q17 (st v) w8 (by rw[y9];omega) hg8;rw[z0b] at ht;have HT:=Ld ht;clear HR RD7 AP7 PB7 hvs ha8 hrd8 hr ht hg8;go_wp2_with fail;refine HT.out.mono ?_;rintro e w9 ⟨rfl,hb9⟩;have a9:Ap (fun b=>b=R) w8 w9:=Ap.of_below hb9;have RD9:=Ld ((hb9.block R (Blk.lt RD8.out)).trans RD8.out:Rd w9 R s j4 tx ov);have PB9:=Ld ((hb9.block P (Blk.lt PB8.out)).trans PB8.out:Blk w9 P 73 #[.string (st nm),.string ⟨#[]⟩]);have AP9:=Ld (AP8.out.trans a9);have OW9:=Ld (ownsRow_setCell_other (z1a OW8.out a9 HBR.out) (a:=⟨P,1,none⟩) HOP.out (.string (st (Mk.take v).1)));clear OW7 OW8;have c9:w9.cell? ⟨P,1,none⟩=some (.string ⟨#[]⟩):=Blk.cell PB9.out 1;have f9:=Blk.frozen PB9.out 1;clear HT hb9 a9 RD8 PB8 AP8;go_wp2_with fail;go_meet
        case rel=>exact⟨j4,(Mk.take v).1,by omega,hj4s,OW9,HR2,Blk.set_ PB9.out 1 _,AP9.out.setNew (p:=⟨P,1,none⟩) hP _,Blk.far RD9.out (p:=⟨P,1,none⟩) (fun e=>hPR e.symm) _⟩
     case rest =>
      obtain⟨j4,v,hj4,hj4s,OW7,HR,PB7,AP7,RD7⟩:=hcut;rw[HR.out] at HA;simp only at HA;clear HR OW6 PB6 AP6 RD6 HBB;have hsz7:=AP7.out.size;have c70:wc.cell? ⟨P,0,none⟩=some (.string (st nm)):=Blk.cell PB7.out 0;have hN:=fun W=>z7f (st nm) W (by rw[y9];omega)
      rw[z0b] at hN
      cases hin:Mk.isName nm with
      | false =>
       have HA2:Hid (Mk.z1c (s.data.toList.drop k)=Mk.z98 (s.data.toList.drop j4) out):=by show _=_;rw[HA.out,Mk.z8r,hin];rfl
       rw[hin] at hN;have HN:=Ld hN;clear hN hin HA;go_wp2_with fail;refine(HN.out _).mono ?_;rintro e w8 ⟨rfl,rfl⟩;go_wp2_with fail;go_roundw
       case rel=>exact⟨j4,out,by omega,hj4s,by omega,HA2,RD7,AP7,OW7⟩
       case measure=>have e1:=HATJ.out;have e2:=RD7.out.atOf;rw[e1,e2];omega
      | true =>
       rw[hin] at hN;have HN:=Ld hN;clear hN;obtain⟨hs2,hhs2⟩:∃ b,Mk.z1d out nm=b:=⟨_,rfl⟩;have hPlt:P < wc.heap.size:=Blk.lt PB7.out;have hcf:=z14 163 #[.pointer (some ⟨P,0,none⟩)] (fun a=>a.n == nm) j4m out u3 (fun b=>b < wc.heap.size) wc (AtsV.of_own OW7.out (fun g hg'=>(OW7.out.lt g hg').2)) (fun _ hb'=>hb') (by omega) (q7b P nm out wc hPlt c70);rw[show out.any (fun a=>a.n == nm)=hs2 from hhs2] at hcf;have HCF:=Ld hcf;clear hcf
       cases hs2 with
       | true =>
        have HA2:Hid (Mk.z1c (s.data.toList.drop k)=Mk.z98 (s.data.toList.drop j4) out):=by show _=_;rw[HA.out,Mk.z8r,hin,hhs2];rfl
        clear hin HA hhs2;go_wp2_with fail;refine(HN.out _).mono ?_;rintro e w8 ⟨rfl,rfl⟩;go_wp2_with fail;refine HCF.out.mono ?_;rintro e w9 ⟨rfl,hb9⟩;have a9:Ap (fun b=>b=R) w8 w9:=Ap.of_below hb9;have RD9:=Ld (Rd.ap_far RD7.out (Ap.of_below (S:=fun _=>False) hb9) (fun h=>h));have AP9:=Ld (AP7.out.trans a9);have OW9:=Ld (z1a OW7.out a9 HBR.out);clear a9 hb9 OW7 AP7 RD7 PB7;go_wp2_with fail;go_roundw
        case rel=>exact⟨j4,out,by omega,hj4s,by omega,HA2,RD9,AP9,OW9⟩
        case measure=>have e1:=HATJ.out;have e2:=RD9.out.atOf;rw[e1,e2];omega
       | false =>
        have HA2:Hid (Mk.z1c (s.data.toList.drop k)=Mk.z98 (s.data.toList.drop j4) (out++[⟨nm,v⟩])):=by show _=_;rw[HA.out,Mk.z8r,hin,hhs2];rfl
        clear hin HA hhs2;go_wp2_with fail;refine(HN.out _).mono ?_;rintro e w8 ⟨rfl,rfl⟩;go_wp2_with fail;refine HCF.out.mono ?_;rintro e w9 ⟨rfl,hb9⟩;have a9:Ap (fun b=>b=R) w8 w9:=Ap.of_below hb9;have RD9:=Ld (Rd.ap_far RD7.out (Ap.of_below (S:=fun _=>False) hb9) (fun h=>h));have PB9:=Ld (Blk.ap PB7.out (Ap.of_below (S:=fun _=>False) hb9) (fun h=>h));have AP9:=Ld (AP7.out.trans a9);have OW9:=Ld (z1a OW7.out a9 HBR.out);have hsz9:=AP9.out.size;have c90:w9.cell? ⟨P,0,none⟩=some (.string (st nm)):=Blk.cell PB9.out 0;have c91:w9.cell? ⟨P,1,none⟩=some (.string (st v)):=Blk.cell PB9.out 1;clear a9 hb9 OW7 AP7 RD7 PB7 c70;obtain⟨i0,hi,hz0,hz1,hz2⟩:=info_parts Tryz.infoAttr;have ow10:=z1a OW9.out ((Ap.refl (fun b=>b=R) w9).alloc (.cells #[.string (st nm),.string (st v)] 73)) HBR.out;have hlen10:out.length≤1048576:=by omega
        go_wp2_with (at_builtin;refine wpList_append_own _ rfl _ _ 36 rfl w.heap.size 73 i0 (.agg #[.string ⟨#[]⟩,.string ⟨#[]⟩]) 2 32 underlying36 hi hz0 hz1 hz2 rfl (by decide) _ _ _ rfl ow10 ⟨w9.heap.size,0,none⟩ 1 1 [.string (st nm),.string (st v)] rfl rfl (Y9 _ _ _) (by intro u hu;simp at hu;rcases hu with rfl | rfl <;> rfl) (by unfold maxLen;omega) (by omega) (by simp;omega) ?_);intro v' w11 hown' hgrow _;have hown2:w11.ownsRow w.heap.size 73 2 v' (out++[(⟨nm,v⟩:Mk.At)]).length (Z5 (out++[⟨nm,v⟩])):=by
         rw[List.length_append,show Z5 (out++[(⟨nm,v⟩:Mk.At)])=Z5 out++[.string (st nm),.string (st v)] by simp[Z5]];exact hown'
        have OW11:=Ld hown2;have AP11:=Ld ((AP9.out.alloc (.cells #[.string (st nm),.string (st v)] 73)).grown hgrow (fun k hk e=>absurd hk (by have:=(OW9.out.lt k e).1;omega)));have RD11:Hid (Rd w11 R s j4 tx ov):=(hgrow.block R (by have:=Blk.lt RD9.out;simp;omega) (fun e=>HBR.out R (OW9.out.lt R e.symm).1 rfl)).trans (Blk.alloc RD9.out _);clear hown' hown2 hgrow OW9 AP9 RD9 ow10 PB9 c90 c91;go_wp2_with fail;go_roundw
        case rel=>exact⟨j4,out++[⟨nm,v⟩],by omega,hj4s,by rw[List.length_append,List.length_singleton];omega,HA2,RD11,AP11,OW11⟩
        case measure=>have e1:=HATJ.out;have e2:=RD11.out.atOf;rw[e1,e2];omega
  ·rw[show s.data.toList.drop j1=[] from List.drop_of_length_le (by simp;omega)] at HA
   simp only at HA;go_wp2_with fail;refine HP.out.mono ?_;rintro e w1 ⟨rfl,RD1,MV1⟩;have AP1:=AP.out.trans MV1.ap;go_wp2_with fail;refine(q1q RD1 (by omega)).mono ?_;rintro e w2 ⟨rfl,RD2,MV2⟩;have AP2:=Ld (AP1.trans MV2.ap);go_wp2_with fail;exact⟨rfl,.inl ⟨HA.out,rfl,⟨_,RD2⟩,AP2.out⟩⟩
end
theorem q52 (n:List UInt8) (w:World) :
  Calls prog 60 #[.string (st n)] w fun e w'=>e=.returned (.bool (Mk.z0n n))∧w'=w:=by
 have hst:(st n).toList=n:=Lib.toList_data _;go_enter func60,ntmps60;go_wp2_with fail
 all_goals (go_ret;refine⟨Z8 ?_,rfl⟩;first | rfl | (simp[Mk.z0n, *];done) | trace_state)
theorem j6w (n:List UInt8) (w:World) :
  Calls prog 122 #[.string (st n)] w fun e w'=>e=.returned (.bool (Mk.z7i n))∧w'=w:=by
 have hst:(st n).toList=n:=Lib.toList_data _;go_enter func122,ntmps122;go_wp2_with fail
 all_goals (go_ret;refine⟨Z8 ?_,rfl⟩;first | rfl | (simp[Mk.z7i,Mk.z8o, *];done) | trace_state)
theorem tr_block (n:List UInt8) (w:World) :
  Calls prog 121 #[.string (st n)] w fun e w'=>e=.returned (.bool (Mk.z5o n))∧w'=w:=by
 have hst:(st n).toList=n:=Lib.toList_data _;have hw:=fun W=>j6w n W
 have hb:Mk.z5o n=(Mk.z7i n || n == [112] || n == [104,114]):=rfl;generalize Mk.z7i n=a at hw hb;have HW:=Ld hw;have HB:=Ld hb;clear hw hb;go_enter func121,ntmps121;go_wp2_with (go_at_call 122;refine(HW.out _).mono ?_;rintro e w' ⟨rfl,rfl⟩)
 all_goals (go_ret;refine⟨Z8 ?_,rfl⟩;rw[HB.out];first | rfl | (simp[*];done))
theorem tr_list (n:List UInt8) (w:World) :
  Calls prog 123 #[.string (st n)] w fun e w'=>e=.returned (.bool (Mk.z8o n))∧w'=w:=by
 have hst:(st n).toList=n:=Lib.toList_data _;go_enter func123,ntmps123;go_wp2_with fail
 all_goals (go_ret;refine⟨Z8 ?_,rfl⟩;first | rfl | (simp[Mk.z8o, *];done))
theorem tr_none (n:List UInt8) (w:World) :
  Calls prog 93 #[.string (st n)] w fun e w'=>e=.returned (.bool false)∧w'=w:=by
 go_enter func93,ntmps93;go_wp2_with fail;go_ret;exact⟨rfl,rfl⟩
theorem j4a (n:List UInt8) (w:World) :
  Calls prog 79 #[.string (st n)] w fun e w'=>e=.returned (.bool (Mk.z9s n))∧w'=w:=by
 have hst:(st n).toList=n:=Lib.toList_data _;go_enter func79,ntmps79;go_wp2_with fail
 all_goals (go_ret;refine⟨Z8 ?_,rfl⟩;first | rfl | (simp[Mk.z9s, *];done))
theorem cl_gone (n:List UInt8) (w:World) :
  Calls prog 124 #[.string (st n)] w fun e w'=>e=.returned (.bool (Mk.q5s n))∧w'=w:=by
 have hst:(st n).toList=n:=Lib.toList_data _;go_enter func124,ntmps124;go_wp2_with fail
 all_goals (go_ret;refine⟨Z8 ?_,rfl⟩;first | rfl | (simp[Mk.q5s, *];done))
end Go.Proofs.YtagleefekmdldaaGreatDoor
