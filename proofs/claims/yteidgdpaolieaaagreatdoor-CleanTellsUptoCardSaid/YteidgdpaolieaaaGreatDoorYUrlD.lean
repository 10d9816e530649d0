/- Contracts of the program's joined, Split and Join. Condition: all texts together at most 67108864 bytes. -/
import Derived.Test.YteidgdpaolieaaaGreatDoorYUrlC
import Derived.Deep.RegionHeld3
set_option linter.unusedVariables false
set_option linter.unusedSimpArgs false
namespace Go.Proofs.YteidgdpaolieaaaGreatDoor
open Go.RowKit

theorem app_st (x y : ByteArray) : x++y = st (x.data.toList++y.data.toList):=by
 rw [← st_bs (x++y)]
 congr 1
set_option maxHeartbeats 400000 in
theorem joined1_yes (a : Addr) (s x y z : ByteArray) (w : World) (hc : w.cell? a = some (.string s)) (hf : w.frozen? a = false) (hl : s.size + x.size + y.size + z.size≤8388608) :
  Calls Tryz.prog 119 #[.bool true,.string x,.string y,.string z,.pointer (some a)] w fun e w'=>e = .returned (.tuple #[])∧w' = w.setCell a (.string (st (s.data.toList++x.data.toList++y.data.toList++z.data.toList))):=by
 go_enter Tryz.func119,Tryz.ntmps119
 go_wp2
 go_end0
 refine ⟨rfl,?_⟩
 rw [app_st x y,app_st _ z,app_st s]
 simp only [bs_st,List.append_assoc]
set_option maxHeartbeats 400000 in
theorem joined1_no (a : Addr) (x y z : ByteArray) (w : World) :
  Calls Tryz.prog 119 #[.bool false,.string x,.string y,.string z,.pointer (some a)] w fun e w'=>e = .returned (.tuple #[])∧w' = w:=by
 go_enter Tryz.func119,Tryz.ntmps119
 go_wp2
 go_end0
 exact ⟨rfl,rfl⟩

/-- the closure's step. -/
def jput (h : Bool) (s x y z : List UInt8) : List UInt8:=if h then s++x++y++z else s
theorem joined1 (h : Bool) (a : Addr) (s x y z : List UInt8) (w : World) (hc : w.cell? a = some (.string (st s))) (hf : w.frozen? a = false) (hl : s.length + x.length + y.length + z.length≤8388608) :
  Calls Tryz.prog 119 #[.bool h,.string (st x),.string (st y),.string (st z),.pointer (some a)] w fun e w'=>e = .returned (.tuple #[])∧((h = true∧w' = w.setCell a (.string (st (jput h s x y z)))) ∨ h = false∧w' = w):=by
 cases h with
 | true=>exact (joined1_yes a (st s) (st x) (st y) (st z) w hc hf (by simpa [st_size] using hl)).mono fun e w' ⟨he,hw⟩=>⟨he,.inl ⟨rfl,hw⟩⟩
 | false=>exact (joined1_no a (st x) (st y) (st z) w).mono fun e w' ⟨he,hw⟩=>⟨he,.inr ⟨rfl,hw⟩⟩

/-- the state of joined: what has been put. -/
structure JSt (w wk : World) (acc : List UInt8) (u : Mg.U) : Prop where
 below : Below w.heap.size w wk
 uu : Blk wk w.heap.size 66 (uCells u)
 ac : Blk wk (w.heap.size + 1) 9 #[.string (st acc)]
theorem JSt.start (w : World) (u : Mg.U) : JSt w ((w.alloc (.cells (uCells u) 66)).alloc (.cells #[.string (st [])] 9)) [] u:=by
 have b2:=Blk.new (w.alloc (.cells (uCells u) 66)) 9 #[.string (st [])]
 have e1 : (w.alloc (.cells (uCells u) 66)).heap.size = w.heap.size + 1:=by simp
 rw [e1] at b2
 exact ⟨((Below.refl _ w).alloc (Nat.le_refl _) _).alloc (by omega) _,(Blk.new w 66 (uCells u)).alloc _,b2⟩
theorem JSt.step {w wk w' : World} {acc x y z : List UInt8} {u : Mg.U} {h : Bool} (j : JSt w wk acc u) (hw : (h = true∧w' = wk.setCell ⟨w.heap.size + 1,0,none⟩ (.string (st (jput h acc x y z)))) ∨ h = false∧w' = wk) : JSt w w' (jput h acc x y z) u:=by
 rcases hw with ⟨rfl,rfl⟩ | ⟨rfl,rfl⟩
 ·exact ⟨j.below.setCell (by show _≤w.heap.size + 1;omega) _,j.uu.far (by show _ ≠ w.heap.size + 1;omega) _,j.ac.set_ 0 _⟩
 ·exact j
theorem jput_len (h : Bool) (s x y z : List UInt8) : (jput h s x y z).length≤s.length + x.length + y.length + z.length:=by
 unfold jput;split
 ·simp only [List.length_append];omega
 ·omega
theorem jput_join (u : Mg.U) : jput u.hf (jput u.hq (jput true (jput u.ha (jput u.hs [] [] u.sch [58]) [47,47] u.au []) [] u.pa []) [63] u.qu []) [35] u.fr [] = Mg.join u:=by
 obtain ⟨a1,a2,a3,a4,a5,a6,a7,a8,a9⟩:=u
 cases a6 <;> cases a7 <;> cases a8 <;> cases a9 <;> simp [jput,Mg.join]
set_option maxHeartbeats 400000 in
theorem run_eql_url (a b : Mg.U) (w : World) : (binOp .eql 66 (uVal a) (uVal b)).run Tryz.prog w = .ok (.bool (a == b)) w:=by
 have hst : ∀ l,(st l).toList = l:=fun l=>Lib.toList_data _
 simp only [binOp]
 simp only [Op.equal,Op.maxDepth,uVal]
 simp [run_equalIn_struct,go_sem]
 simp only [hst]
 obtain ⟨a1,a2,a3,a4,a5,a6,a7,a8,a9⟩:=a
 obtain ⟨b1,b2,b3,b4,b5,b6,b7,b8,b9⟩:=b
 have e : ((⟨a1,a2,a3,a4,a5,a6,a7,a8,a9⟩ : Mg.U) == ⟨b1,b2,b3,b4,b5,b6,b7,b8,b9⟩) = decide (a1 = b1∧a2 = b2∧a3 = b3∧a4 = b4∧a5 = b5∧a6 = b6∧a7 = b7∧a8 = b8∧a9 = b9):=by
  rw [Bool.eq_iff_iff];simp
 rw [e]
 by_cases h1 : a1 = b1
 ·by_cases h2 : a2 = b2
  ·by_cases h3 : a3 = b3
   ·by_cases h4 : a4 = b4
    ·by_cases h5 : a5 = b5
     ·by_cases h6 : a6 = b6
      ·by_cases h7 : a7 = b7
       ·by_cases h8 : a8 = b8
        ·by_cases h9 : a9 = b9 <;> simp [h1,h2,h3,h4,h5,h6,h7,h8,h9]
        ·simp [h1,h2,h3,h4,h5,h6,h7,h8]
       ·simp [h1,h2,h3,h4,h5,h6,h7]
      ·simp [h1,h2,h3,h4,h5,h6]
     ·simp [h1,h2,h3,h4,h5]
    ·simp [h1,h2,h3,h4]
   ·simp [h1,h2,h3]
  ·simp [h1,h2]
 ·simp [h1]
theorem run_eql_url2 (a u : Mg.U) (w : World) : (binOp .eql 66 (uVal a) (.agg #[.string (st u.sch),.string (st u.au),.string (st u.pa),.string (st u.qu),.string (st u.fr),.bool u.hs,.bool u.ha,.bool u.hq,.bool u.hf])).run Tryz.prog w = .ok (.bool (a == u)) w:=run_eql_url a u w
theorem Tryz.guardUrl : Tryz.prog.eqGuardType Tryz.prog.depth 66 = false:=by kernel_rfl
theorem run_guard_url (a u : Mg.U) (x y : Operand) (w : World) : (eqGuard .eql 66 x y (uVal a) (.agg #[.string (st u.sch),.string (st u.au),.string (st u.pa),.string (st u.qu),.string (st u.fr),.bool u.hs,.bool u.ha,.bool u.hq,.bool u.hf])).run Tryz.prog w = .ok () w:=by
 unfold uVal
 exact run_eqGuard_agg w .eql _ x y _ _ Tryz.guardUrl
theorem cell_kept {wk w1 : World} {b o : Nat} {v : Value} (h : wk.cell? ⟨b,o,none⟩ = some v) (hb : Below wk.heap.size wk w1) : w1.cell? ⟨b,o,none⟩ = some v :=
 (hb.cell (p:=⟨b,o,none⟩) (World.block_lt_of_cell? wk _ h)).trans h
theorem jkeep {w wk w1 : World} {acc : List UInt8} {u : Mg.U} (h : wk.cell? ⟨w.heap.size + 1,0,none⟩ = some (.string (st acc))∧wk.cell? ⟨w.heap.size,0,none⟩ = some (.string (st u.sch))∧wk.cell? ⟨w.heap.size,1,none⟩ = some (.string (st u.au))∧wk.cell? ⟨w.heap.size,2,none⟩ = some (.string (st u.pa))∧wk.cell? ⟨w.heap.size,3,none⟩ = some (.string (st u.qu))∧wk.cell? ⟨w.heap.size,4,none⟩ = some (.string (st u.fr))∧wk.cell? ⟨w.heap.size,5,none⟩ = some (.bool u.hs)∧wk.cell? ⟨w.heap.size,6,none⟩ = some (.bool u.ha)∧wk.cell? ⟨w.heap.size,7,none⟩ = some (.bool u.hq)∧wk.cell? ⟨w.heap.size,8,none⟩ = some (.bool u.hf)) (hb : Below wk.heap.size wk w1) :
  w1.cell? ⟨w.heap.size + 1,0,none⟩ = some (.string (st acc))∧w1.cell? ⟨w.heap.size,0,none⟩ = some (.string (st u.sch))∧w1.cell? ⟨w.heap.size,1,none⟩ = some (.string (st u.au))∧w1.cell? ⟨w.heap.size,2,none⟩ = some (.string (st u.pa))∧w1.cell? ⟨w.heap.size,3,none⟩ = some (.string (st u.qu))∧w1.cell? ⟨w.heap.size,4,none⟩ = some (.string (st u.fr))∧w1.cell? ⟨w.heap.size,5,none⟩ = some (.bool u.hs)∧w1.cell? ⟨w.heap.size,6,none⟩ = some (.bool u.ha)∧w1.cell? ⟨w.heap.size,7,none⟩ = some (.bool u.hq)∧w1.cell? ⟨w.heap.size,8,none⟩ = some (.bool u.hf):=by
 obtain ⟨a0,a1,a2,a3,a4,a5,a6,a7,a8,a9⟩:=h
 exact ⟨cell_kept a0 hb,cell_kept a1 hb,cell_kept a2 hb,cell_kept a3 hb,cell_kept a4 hb,cell_kept a5 hb,cell_kept a6 hb,cell_kept a7 hb,cell_kept a8 hb,cell_kept a9 hb⟩
set_option maxHeartbeats 1000000 in
theorem url_joined (u : Mg.U) (w : World) (hl : u.sch.length + u.au.length + u.pa.length + u.qu.length + u.fr.length≤1048576) :
  Calls Tryz.prog 81 #[uVal u] w fun e w'=>e = .returned (.tuple #[.string (st (Mg.join u)),.bool (Mg.joinOk u)])∧Below w.heap.size w w':=by
 have js:=JSt.start w u
 unfold uVal
 go_enter Tryz.func81,Tryz.ntmps81
 go_wp2_with fail
 change Calls _ _ _ ((w.alloc (.cells (uCells u) 66)).alloc (.cells #[.string (st [])] 9)) _
 generalize (w.alloc (.cells (uCells u) 66)).alloc (.cells #[.string (st [])] 9) = w1 at js ⊢
 refine (joined1 u.hs _ [] [] u.sch [58] _ (js.ac.cell 0) (js.ac.frozen 0) (by simp;omega)).mono ?_
 rintro e w2 ⟨rfl,hw2⟩
 have j2:=js.step hw2
 clear js hw2
 have c1 : w2.cell? ⟨w.heap.size,6,none⟩ = some (.bool u.ha):=j2.uu.cell 6
 have c2 : w2.cell? ⟨w.heap.size,1,none⟩ = some (.string (st u.au)):=j2.uu.cell 1
 have l2:=jput_len u.hs [] [] u.sch [58]
 go_wp2_with fail
 refine (joined1 u.ha _ _ [47,47] u.au [] _ (j2.ac.cell 0) (j2.ac.frozen 0) (by simp at l2 ⊢;omega)).mono ?_
 rintro e w3 ⟨rfl,hw3⟩
 have j3:=j2.step hw3
 have l3:=jput_len u.ha (jput u.hs [] [] u.sch [58]) [47,47] u.au []
 clear j2 hw3 c1 c2
 have c1 : w3.cell? ⟨w.heap.size,2,none⟩ = some (.string (st u.pa)):=j3.uu.cell 2
 go_wp2_with fail
 refine (joined1 true _ _ [] u.pa [] _ (j3.ac.cell 0) (j3.ac.frozen 0) (by simp at l2 l3 ⊢;omega)).mono ?_
 rintro e w4 ⟨rfl,hw4⟩
 have j4:=j3.step hw4
 have l4:=jput_len true (jput u.ha (jput u.hs [] [] u.sch [58]) [47,47] u.au []) [] u.pa []
 clear j3 hw4 c1
 have c1 : w4.cell? ⟨w.heap.size,7,none⟩ = some (.bool u.hq):=j4.uu.cell 7
 have c2 : w4.cell? ⟨w.heap.size,3,none⟩ = some (.string (st u.qu)):=j4.uu.cell 3
 go_wp2_with fail
 refine (joined1 u.hq _ _ [63] u.qu [] _ (j4.ac.cell 0) (j4.ac.frozen 0) (by simp at l2 l3 l4 ⊢;omega)).mono ?_
 rintro e w5 ⟨rfl,hw5⟩
 have j5:=j4.step hw5
 have l5:=jput_len u.hq (jput true (jput u.ha (jput u.hs [] [] u.sch [58]) [47,47] u.au []) [] u.pa []) [63] u.qu []
 clear j4 hw5 c1 c2
 have c1 : w5.cell? ⟨w.heap.size,8,none⟩ = some (.bool u.hf):=j5.uu.cell 8
 have c2 : w5.cell? ⟨w.heap.size,4,none⟩ = some (.string (st u.fr)):=j5.uu.cell 4
 go_wp2_with fail
 refine (joined1 u.hf _ _ [35] u.fr [] _ (j5.ac.cell 0) (j5.ac.frozen 0) (by simp at l2 l3 l4 l5 ⊢;omega)).mono ?_
 rintro e w6 ⟨rfl,hw6⟩
 have j6:=j5.step hw6
 have l6:=jput_len u.hf (jput u.hq (jput true (jput u.ha (jput u.hs [] [] u.sch [58]) [47,47] u.au []) [] u.pa []) [63] u.qu []) [35] u.fr []
 clear j5 hw6 c1 c2
 have hj:=jput_join u
 obtain ⟨acc,hacc⟩ : ∃ acc,acc = jput u.hf (jput u.hq (jput true (jput u.ha (jput u.hs [] [] u.sch [58]) [47,47] u.au []) [] u.pa []) [63] u.qu []) [35] u.fr []:=⟨_,rfl⟩
 rw [← hacc] at j6 l6 hj
 have hlen : (st acc).size≤67108864:=by simp [st_size] at l2 l3 l4 l5 l6 ⊢;omega
 have HJ:=Lib.hid hj
 clear hacc l2 l3 l4 l5 l6 hj
 have hbl:=j6.below
 have s0 : w6.cell? ⟨w.heap.size + 1,0,none⟩ = some (.string (st acc)):=j6.ac.cell 0
 have d0 : w6.cell? ⟨w.heap.size,0,none⟩ = some (.string (st u.sch)):=j6.uu.cell 0
 have d1 : w6.cell? ⟨w.heap.size,1,none⟩ = some (.string (st u.au)):=j6.uu.cell 1
 have d2 : w6.cell? ⟨w.heap.size,2,none⟩ = some (.string (st u.pa)):=j6.uu.cell 2
 have d3 : w6.cell? ⟨w.heap.size,3,none⟩ = some (.string (st u.qu)):=j6.uu.cell 3
 have d4 : w6.cell? ⟨w.heap.size,4,none⟩ = some (.string (st u.fr)):=j6.uu.cell 4
 have d5 : w6.cell? ⟨w.heap.size,5,none⟩ = some (.bool u.hs):=j6.uu.cell 5
 have d6 : w6.cell? ⟨w.heap.size,6,none⟩ = some (.bool u.ha):=j6.uu.cell 6
 have d7 : w6.cell? ⟨w.heap.size,7,none⟩ = some (.bool u.hq):=j6.uu.cell 7
 have d8 : w6.cell? ⟨w.heap.size,8,none⟩ = some (.bool u.hf):=j6.uu.cell 8
 have hlt:=j6.ac.lt
 clear j6
 go_wp2_with fail
 have heq:=fun W=>run_eql_url2 (Mg.split (st acc).data.toList) u W
 have hgd:=fun x y W=>run_guard_url (Mg.split (st acc).data.toList) u x y W
 go_region_held3 (fun w'=>w'.cell? ⟨w.heap.size + 1,0,none⟩ = some (.string (st acc))∧w'.cell? ⟨w.heap.size,0,none⟩ = some (.string (st u.sch))∧w'.cell? ⟨w.heap.size,1,none⟩ = some (.string (st u.au))∧w'.cell? ⟨w.heap.size,2,none⟩ = some (.string (st u.pa))∧w'.cell? ⟨w.heap.size,3,none⟩ = some (.string (st u.qu))∧w'.cell? ⟨w.heap.size,4,none⟩ = some (.string (st u.fr))∧w'.cell? ⟨w.heap.size,5,none⟩ = some (.bool u.hs)∧w'.cell? ⟨w.heap.size,6,none⟩ = some (.bool u.ha)∧w'.cell? ⟨w.heap.size,7,none⟩ = some (.bool u.hq)∧w'.cell? ⟨w.heap.size,8,none⟩ = some (.bool u.hf)) (first | exact ⟨s0,d0,d1,d2,d3,d4,d5,d6,d7,d8⟩ | exact jkeep (wk:=w6.drew) ⟨s0,d0,d1,d2,d3,d4,d5,d6,d7,d8⟩ hb7) (first | (go_at_call 80;refine (url_Parts _ _ hlen).mono ?_;rintro e w7 ⟨rfl,hb7⟩))
 all_goals
  go_wp2_with fail
  go_ret2
  refine ⟨?_,hbl.drew.trans (hb7.mono (by have:=hbl.size;exact this))⟩
  rw [← HJ.out]
  show _ = Ending.returned (.tuple #[.string (st acc),.bool (Mg.split (Mg.join u) == u)])
  rw [← HJ.out]
  rfl
end Go.Proofs.YteidgdpaolieaaaGreatDoor
