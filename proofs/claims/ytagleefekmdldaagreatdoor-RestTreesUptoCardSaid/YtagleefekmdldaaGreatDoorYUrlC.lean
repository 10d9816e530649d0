/- Contracts of the program's cutter and Parts: each returns just what its plain Lean function says. Condition: texts of at most 67108864 bytes. -/
import Derived.Test.YtagleefekmdldaaGreatDoorYUrlB
import Derived.Deep.Cut
import Derived.Deep.DeepCutAuto
set_option linter.unusedVariables false
set_option linter.unusedSimpArgs false
set_option maxHeartbeats 1000000
namespace Go.Proofs.YtagleefekmdldaaGreatDoor
open Go.Proofs.Tryz Go.RowKit

theorem q5l (a:Addr) (s p:ByteArray) (w:World) (hc:w.cell? a=some (.string s)) (hf:w.frozen? a=false) :
  Calls prog 210 #[.pointer (some a),.string p] w fun e w'=>e=.returned (.bool (Lib.hasPrefix s.data.toList p.data.toList))∧w'=w.setCell a (.string (st (Lib.trimPrefix s.data.toList p.data.toList))):=by
 go_enter func210,ntmps210;go_wp2_with (go_at_call 226;refine(Tryz.strings_CutPrefix _ _ _).mono ?_;rintro e w' ⟨rfl,hw⟩;rw[hw]);go_ret;exact⟨rfl,rfl⟩

theorem q0y (a:Addr) (s chars:ByteArray) (q:UInt8→Bool) (w:World) (hc:w.cell? a=some (.string s)) (hf:w.frozen? a=false) (hs:s.size≤67108864)
  (h1:1≤chars.size) (hcs:chars.size≤67108864) (hascii:∀ b ∈ chars.data.toList,b.toNat < 128) (hq:∀ c,chars.data.toList.contains c=q c) :
  Calls prog 211 #[.pointer (some a),.string chars] w fun e w'=>e=.returned (.string (st (Mg.upto q s.data.toList)))∧∃ w1,Below w.heap.size w w1∧w'=w1.setCell a (.string (st (Mg.past q s.data.toList))):=by
 have HA:=Ld hascii;have HQ:=Ld hq;clear hascii hq;have hab:=World.block_lt_of_cell? w a hc
 rcases q5t chars.data.toList q HQ.out s.data.toList with ⟨e1,e2,e3,e4⟩ | ⟨e1,e2,e3,e4⟩
 ·have E1:=Ld e1;have E3:=Ld e3;have E4:=Ld e4
  clear e1 e2 e3 e4;go_enter func211,ntmps211;go_wp2_with (go_at_call 136;refine(z2g _ _ _ h1 hcs hs HA.out).mono ?_;rintro e w1 ⟨rfl,hbl⟩;rw[E1.out];have hc1:=(hbl.cell hab).trans hc;have hf1:=(hbl.frozen hab).trans hf);go_ret;refine⟨?_,w1,hbl,?_⟩
  ·rw[E3.out];rfl
  ·rw[E4.out];rfl
 ·obtain⟨i,hi⟩:∃ i,s.data.toList.findIdx q=i:=⟨_,rfl⟩
  rw[hi] at e1 e2 e3 e4;have hil:i < s.size:=by simpa using e1
  have E2:=Ld e2;have E3:=Ld e3;have E4:=Ld e4;clear e1 e2 e3 e4 hi;go_enter func211,ntmps211;go_wp2_with (go_at_call 136;refine(z2g _ _ _ h1 hcs hs HA.out).mono ?_;rintro e w1 ⟨rfl,hbl⟩;rw[E2.out];have hc1:=(hbl.cell hab).trans hc;have hf1:=(hbl.frozen hab).trans hf);go_ret;refine⟨?_,w1,hbl,?_⟩
  ·exact z8v (by rw[E3.out,Z4];simp)
  ·rw[E4.out,Z4,List.take_of_length_le (by simp)]

def uVal (u:Mg.U):Value:=.agg #[.string (st u.sch),.string (st u.au),.string (st u.pa),.string (st u.qu),.string (st u.fr),.bool u.hs,.bool u.ha,.bool u.hq,.bool u.hf]
theorem q8m:∀ c,[47,63,35].contains c=Mg.q4u c:=fun c=>Mg.z0h (fun c=>[47,63,35].contains c=Mg.q4u c) (by decide +kernel) c
theorem q8n:∀ c,[63,35].contains c=Mg.z3j c:=fun c=>Mg.z0h (fun c=>[63,35].contains c=Mg.z3j c) (by decide +kernel) c
theorem q8o:∀ c,[35].contains c=Mg.q1u c:=fun c=>Mg.z0h (fun c=>[35].contains c=Mg.q1u c) (by decide +kernel) c

def z2t:Array Value:=#[.string (st []),.string (st []),.string (st []),.string (st []),.string (st []),.bool false,.bool false,.bool false,.bool false]
def z03 (u:Mg.U):Array Value:=#[.string (st u.sch),.string (st u.au),.string (st u.pa),.string (st u.qu),.string (st u.fr),.bool u.hs,.bool u.ha,.bool u.hq,.bool u.hf]
structure PSt (w wk:World) (r:List UInt8) (u:Mg.U):Prop where
 below:Below w.heap.size w wk
 res:Blk wk w.heap.size 223 z2t
 uu:Blk wk (w.heap.size + 1) 223 (z03 u)
 cut:Blk wk (w.heap.size + 1 + 1) 246 #[.string (st r)]
 len:r.length≤67108864

theorem PSt.start {w w1:World} {s:ByteArray} (hb1:Below (((w.alloc (.cells z2t 223)).alloc (.cells z2t 223)).alloc (.cells #[.string s] 246)).heap.size (((w.alloc (.cells z2t 223)).alloc (.cells z2t 223)).alloc (.cells #[.string s] 246)) w1) (hs:s.size≤67108864):PSt w w1 s.data.toList Mg.nilU:=by
 have hz:=hb1.size;have e1:(w.alloc (.cells z2t 223)).heap.size=w.heap.size + 1:=by simp
 have e2:((w.alloc (.cells z2t 223)).alloc (.cells z2t 223)).heap.size=w.heap.size + 1 + 1:=by simp
 have e3:(((w.alloc (.cells z2t 223)).alloc (.cells z2t 223)).alloc (.cells #[.string s] 246)).heap.size=w.heap.size + 1 + 1 + 1:=by simp
 have b1:=Blk.new w 223 z2t;have b2:=Blk.new (w.alloc (.cells z2t 223)) 223 z2t;have b3:=Blk.new ((w.alloc (.cells z2t 223)).alloc (.cells z2t 223)) 246 #[.string s];rw[e1] at b2;rw[e2] at b3;refine⟨?_,?_,?_,?_,by simpa using hs⟩
 ·exact((((Below.refl _ w).alloc (Lr) _).alloc (by omega) _).alloc (by omega) _).trans (hb1.mono (by omega))
 ·exact((b1.alloc _).alloc _).below hb1 (by omega)
 ·exact(b2.alloc _).below hb1 (by omega)
 ·exact b3.below hb1 (by omega)
theorem z3b (s:ByteArray) (n:Nat):s.extract 0 n=st (s.data.toList.take n):=by rw[Z4];simp
theorem z0c (s:ByteArray) (n:Nat):s.extract n s.size=st (s.data.toList.drop n):=by rw[Z4,List.take_of_length_le (by simp)]
theorem pre_eq (s p:List UInt8):Lib.hasPrefix s p=Mg.pre p s:=by
 rw[← Lib.hasPrefix_of_take,Mg.pre,Bool.eq_iff_iff];simp only [Bool.and_eq_true,decide_eq_true_eq,beq_iff_eq];constructor
 ·exact fun h=>h.2
 ·intro h
  refine⟨?_,h⟩;have:=congrArg List.length h;rw[List.length_take] at this;omega
theorem q56 (s p:List UInt8):Lib.trimPrefix s p=if Mg.pre p s then s.drop p.length else s:=by rw[Lib.trimPrefix,pre_eq]
theorem z4t (a:Addr) (r:List UInt8) (p:ByteArray) (pl:List UInt8) (hp:p.data.toList=pl) (w:World) (hc:w.cell? a=some (.string (st r))) (hf:w.frozen? a=false) :
  Calls prog 210 #[.pointer (some a),.string p] w fun e w'=>e=.returned (.bool (Mg.pre pl r))∧w'=w.setCell a (.string (st (Lib.trimPrefix r pl))):=by
 subst hp;rw[← pre_eq];exact q5l a (st r) p w hc hf
theorem q57 (s p:List UInt8):(Lib.trimPrefix s p).length≤s.length:=by
 rw[q56];split <;> simp
theorem fr_eq (x:List UInt8):(if Mg.isAt 35 (Mg.z1w (Mg.past Mg.z3j x)) then (Mg.z1w (Mg.past Mg.z3j x)).tail else [])=(Mg.z1w (Mg.past Mg.z3j x)).tail:=by
 have h:=Mg.r4_form (Mg.past Mg.z3j x) (by
  intro c t e
  rcases Mg.q6e Mg.z3j x with h0 | ⟨c',t',e',hc⟩
  ·rw[h0] at e;cases e
  ·rw[e'] at e;injection e with e _;subst e;exact hc)
 rcases h with h | h
 ·rw[h];rfl
 ·rw[if_pos h]
theorem q98 (c:UInt8) (r:List UInt8):Mg.isAt c r=Mg.pre [c] r:=by
 cases r with
 | nil=>rfl
 | cons d t=>simp[Mg.isAt,Mg.pre]
theorem z6k (q:UInt8→Bool) (s:List UInt8):(Mg.past q s).length≤s.length:=(List.dropWhile_suffix _).length_le
section
variable {w wk : World} {r : List UInt8} {u : Mg.U}
theorem PSt.grow (h:PSt w wk r u) {w1:World} (hb:Below wk.heap.size wk w1):PSt w w1 r u :=
 ⟨h.below.trans (hb.mono h.below.size),h.res.below hb h.res.lt,h.uu.below hb h.uu.lt,h.cut.below hb h.cut.lt,h.len⟩
theorem PSt.put (h:PSt w wk r u) (i:Nat) (v:Value) (u':Mg.U) (hu:(z03 u).setIfInBounds i v=z03 u'):PSt w (wk.setCell ⟨w.heap.size + 1,i,none⟩ v) r u' :=
 ⟨h.below.setCell (by show _≤w.heap.size + 1;omega) _,h.res.far (by show _ ≠ w.heap.size + 1;omega) _,by rw[← hu];exact h.uu.set_ i v,h.cut.far (by show _ ≠ w.heap.size + 1;omega) _,h.len⟩
theorem PSt.left (h:PSt w wk r u) (r':List UInt8) (hl:r'.length≤r.length):PSt w (wk.setCell ⟨w.heap.size + 1 + 1,0,none⟩ (.string (st r'))) r' u :=
 ⟨h.below.setCell (by show _≤w.heap.size + 1 + 1;omega) _,h.res.far (by show _ ≠ w.heap.size + 1 + 1;omega) _,h.uu.far (by show _ ≠ w.heap.size + 1 + 1;omega) _,h.cut.set_ 0 _,Nat.le_trans hl h.len⟩
theorem PSt.facts (h:PSt w wk r u):wk.cell? ⟨w.heap.size + 1 + 1,0,none⟩=some (.string (st r))∧wk.frozen? ⟨w.heap.size + 1 + 1,0,none⟩=false∧(∀ i,wk.frozen? ⟨w.heap.size + 1,i,none⟩=false)∧(∀ i,wk.frozen? ⟨w.heap.size,i,none⟩=false)∧w.heap.size + 1 + 1 < wk.heap.size :=
 ⟨h.cut.cell 0,h.cut.frozen 0,h.uu.frozen,h.res.frozen,h.cut.lt⟩
theorem PSt.ucell (h:PSt w wk r u) (i:Nat):wk.cell? ⟨w.heap.size + 1,i,none⟩=(z03 u)[i]?:=h.uu.cell i
theorem PSt.rcell (h:PSt w wk r u) (i:Nat):wk.cell? ⟨w.heap.size,i,none⟩=z2t[i]?:=h.res.cell i
end

theorem q20 (s:ByteArray) (w:World) (hs:s.size≤67108864) :
  Calls prog 197 #[.string s] w fun e w'=>e=.returned (uVal (Mg.split s.data.toList))∧Below w.heap.size w w':=by
 go_enter func197,ntmps197;go_wp2_with fail;refine(z4k _ _ hs).mono ?_;rintro e w1 ⟨rfl,hb1⟩;have hp1:=PSt.start hb1 hs;clear hb1;obtain⟨n,hn⟩:∃ n,Mg.z1j s.data.toList=n:=⟨_,rfl⟩;have hn':n ≠ 0→n < s.size:=by
  intro h;have h1:=Mg.q9q s.data.toList (by rw[hn];exact h);rw[hn] at h1;have:=(List.getElem?_eq_some_iff.1 h1).1
  simpa using this
 rw[hn];have HN:=Ld hn;clear hn;go_upto_if 12 with fail
 go_cut [] (fun wx=>PSt w wx (Mg.z0q s.data.toList) { Mg.nilU with sch:=if n=0 then [] else s.data.toList.take n,hs:=decide (n ≠ 0) })
 case first =>
  by_cases h0:0 < n
  ·have hns:=hn' (by omega)
   obtain⟨f1,f2,f3,f4,f5⟩:=hp1.facts;have c0:w1.cell? ⟨w.heap.size + 1,0,none⟩=some (.string (st [])):=hp1.ucell 0;have c5:w1.cell? ⟨w.heap.size + 1,5,none⟩=some (.bool false):=hp1.ucell 5;go_wp2_with fail;go_meet
   case rel =>
    have hnz:n ≠ 0:=by omega
    have e1:Mg.z0q s.data.toList=s.data.toList.drop (n + 1):=by unfold Mg.z0q;rw[HN.out,if_neg hnz]
    rw[e1,if_neg hnz,decide_eq_true hnz,z3b,z0c];exact((hp1.put 0 _ { Mg.nilU with sch:=s.data.toList.take n } rfl).put 5 _ { Mg.nilU with sch:=s.data.toList.take n,hs:=true } rfl).left _ (by simp)
  ·have hnz:n=0:=by omega
   have hd:decide (0 < n)=false:=by simpa using h0
   have HZ:=Ld hnz;clear hnz;go_wp2_with fail;go_meet
   case rel =>
    have hnz:=HZ.out;have e1:Mg.z0q s.data.toList=s.data.toList:=by unfold Mg.z0q;rw[HN.out,if_pos hnz]
    rw[e1,if_pos hnz,decide_eq_false (by omega)];exact hp1
 case rest =>
  obtain⟨r1,hr1⟩:∃ r,r=Mg.z0q s.data.toList:=⟨_,rfl⟩;obtain⟨u1,hu1⟩:∃ u,u=({ Mg.nilU with sch:=if n=0 then [] else s.data.toList.take n,hs:=decide (n ≠ 0) }:Mg.U):=⟨_,rfl⟩;rw[← hr1,← hu1] at hcut;have R1:=Ld hr1;have U1:=Ld hu1;clear hr1 hu1;obtain⟨f1,f2,f3,f4,f5⟩:=hcut.facts;go_wp2_with fail;refine(z4t _ r1 _ [47,47] rfl _ f1 f2).mono ?_;rintro e w2 ⟨rfl,hw2⟩;have hp2:PSt w w2 (Lib.trimPrefix r1 [47,47]) u1:=by rw[hw2];exact hcut.left _ (q57 _ _)
  clear hw2 f1 f2 f3 f4 f5;have HT:=Ld (q56 r1 [47,47]);go_upto_if 26 with fail
  go_cut [] (fun wx=>PSt w wx (Mg.z2z r1) { u1 with au:=if Mg.sl2 r1 then Mg.upto Mg.q4u (r1.drop 2) else [],ha:=Mg.sl2 r1 })
  case first =>
   cases hsl:Mg.pre [47,47] r1 with
   | true =>
    have e1:Lib.trimPrefix r1 [47,47]=r1.drop 2:=by rw[HT.out,hsl];rfl
    rw[e1] at hp2;have HS:Hid (Mg.sl2 r1=true):=hsl;clear e1 hsl;have c6:w2.cell? ⟨w.heap.size + 1,6,none⟩=some (.bool u1.ha):=hp2.ucell 6;have f3:w2.frozen? ⟨w.heap.size + 1,6,none⟩=false:=hp2.uu.frozen 6;have hp3:=hp2.put 6 (.bool true) { u1 with ha:=true } rfl;go_wp2_with fail;generalize w2.setCell ⟨w.heap.size + 1,6,none⟩ (.bool true)=w3 at hp3 ⊢;clear c6 f3 hp2;obtain⟨f1,f2,_,_,_⟩:=hp3.facts;refine(q0y _ _ _ Mg.q4u _ f1 f2 hp3.len (by decide) (by decide) (by decide) q8m).mono ?_;rintro e w4 ⟨rfl,w5,hb5,hw4⟩;have hp4:PSt w w4 (Mg.past Mg.q4u (r1.drop 2)) { u1 with ha:=true }:=by rw[hw4];exact(hp3.grow hb5).left _ (z6k _ _)
    clear hw4 f1 f2 hb5 hp3;have c1:w4.cell? ⟨w.heap.size + 1,1,none⟩=some (.string (st u1.au)):=hp4.ucell 1;have f3:w4.frozen? ⟨w.heap.size + 1,1,none⟩=false:=hp4.uu.frozen 1;go_wp2_with fail;go_meet
    case rel =>
     rw[HS.out,if_pos rfl,Mg.z2z,HS.out,if_pos rfl];exact hp4.put 1 _ _ rfl
   | false =>
    have e1:Lib.trimPrefix r1 [47,47]=r1:=by rw[HT.out,hsl];rfl
    rw[e1] at hp2;have HS:Hid (Mg.sl2 r1=false):=hsl;clear e1 hsl;go_wp2_with fail;go_meet
    case rel =>
     have hq:u1.au=[]∧u1.ha=false:=by rw[U1.out];exact⟨rfl,rfl⟩
     rw[HS.out,Mg.z2z,HS.out];obtain⟨a,b,c,d,e,f,g,h,i⟩:=u1;obtain⟨rfl,rfl⟩:=hq;exact hp2
  case rest =>
   obtain⟨r2,hr2⟩:∃ r,r=Mg.z2z r1:=⟨_,rfl⟩;obtain⟨u2,hu2⟩:∃ u,u=({ u1 with au:=if Mg.sl2 r1 then Mg.upto Mg.q4u (r1.drop 2) else [],ha:=Mg.sl2 r1 }:Mg.U):=⟨_,rfl⟩;rw[← hr2,← hu2] at hcut;have R2:=Ld hr2;have U2:=Ld hu2;clear hr2 hu2 hp1 hp2 HT
   rename_i wd
   have hp3:=hcut;clear hcut;obtain⟨f1,f2,_,_,_⟩:=hp3.facts;go_wp2_with fail;refine(q0y _ _ _ Mg.z3j _ f1 f2 hp3.len (by decide) (by decide) (by decide) q8n).mono ?_;rintro e w4 ⟨rfl,w5,hb5,hw4⟩;have hp4:PSt w w4 (Mg.past Mg.z3j r2) u2:=by rw[hw4];exact(hp3.grow hb5).left _ (z6k _ _)
   clear hw4 f1 f2 hb5 hp3;have c1:w4.cell? ⟨w.heap.size + 1,2,none⟩=some (.string (st u2.pa)):=hp4.ucell 2;have f3:w4.frozen? ⟨w.heap.size + 1,2,none⟩=false:=hp4.uu.frozen 2;obtain⟨r3,hr3⟩:∃ r,r=Mg.past Mg.z3j r2:=⟨_,rfl⟩;obtain⟨u3,hu3⟩:∃ u,u=({ u2 with pa:=Mg.upto Mg.z3j r2 }:Mg.U):=⟨_,rfl⟩;rw[← hr3] at hp4;have hp5:PSt w (w4.setCell ⟨w.heap.size + 1,2,none⟩ (.string (st (Mg.upto Mg.z3j r2)))) r3 u3:=by rw[hu3];exact hp4.put 2 _ _ rfl
   have R3:=Ld hr3;have U3:=Ld hu3;clear hr3 hu3;go_wp2_with fail;change Calls _ _ _ (w4.setCell ⟨w.heap.size + 1,2,none⟩ (.string (st (Mg.upto Mg.z3j r2)))) _;generalize w4.setCell ⟨w.heap.size + 1,2,none⟩ (.string (st (Mg.upto Mg.z3j r2)))=w6 at hp5 ⊢;clear c1 f3 hp4;obtain⟨f1,f2,_,_,_⟩:=hp5.facts;refine(z4t _ r3 _ [63] rfl _ f1 f2).mono ?_;rintro e w7 ⟨rfl,hw7⟩;have hp7:PSt w w7 (Lib.trimPrefix r3 [63]) u3:=by rw[hw7];exact hp5.left _ (q57 _ _)
   clear hw7 f1 f2 hp5;have HT:=Ld (q56 r3 [63]);have HI:=Ld (q98 63 r3);go_upto_if 35 with fail
   go_cut [] (fun wx=>PSt w wx (Mg.z1w r3) { u3 with qu:=if Mg.isAt 63 r3 then Mg.upto Mg.q1u r3.tail else [],hq:=Mg.isAt 63 r3 })
   case first =>
    cases hsl:Mg.pre [63] r3 with
    | true =>
     have e1:Lib.trimPrefix r3 [63]=r3.tail:=by rw[HT.out,hsl];exact List.drop_one
     rw[e1] at hp7;have HS:Hid (Mg.isAt 63 r3=true):=by show _=_;rw[HI.out,hsl]
     clear e1 hsl;have c7:w7.cell? ⟨w.heap.size + 1,7,none⟩=some (.bool u3.hq):=hp7.ucell 7;have f3:w7.frozen? ⟨w.heap.size + 1,7,none⟩=false:=hp7.uu.frozen 7;have hp8:=hp7.put 7 (.bool true) { u3 with hq:=true } rfl;go_wp2_with fail;generalize w7.setCell ⟨w.heap.size + 1,7,none⟩ (.bool true)=w8 at hp8 ⊢;clear c7 f3 hp7;obtain⟨f1,f2,_,_,_⟩:=hp8.facts;refine(q0y _ _ _ Mg.q1u _ f1 f2 hp8.len (by decide) (by decide) (by decide) q8o).mono ?_;rintro e w9 ⟨rfl,w10,hb10,hw9⟩;have hp9:PSt w w9 (Mg.past Mg.q1u r3.tail) { u3 with hq:=true }:=by rw[hw9];exact(hp8.grow hb10).left _ (z6k _ _)
     clear hw9 f1 f2 hb10 hp8;have c3:w9.cell? ⟨w.heap.size + 1,3,none⟩=some (.string (st u3.qu)):=hp9.ucell 3;have f3:w9.frozen? ⟨w.heap.size + 1,3,none⟩=false:=hp9.uu.frozen 3;go_wp2_with fail;go_meet
     case rel =>
      rw[HS.out,if_pos rfl,Mg.z1w,HS.out,if_pos rfl];exact hp9.put 3 _ _ rfl
    | false =>
     have e1:Lib.trimPrefix r3 [63]=r3:=by rw[HT.out,hsl];rfl
     rw[e1] at hp7;have HS:Hid (Mg.isAt 63 r3=false):=by show _=_;rw[HI.out,hsl]
     clear e1 hsl;go_wp2_with fail;go_meet
     case rel =>
      have hq:u3.qu=[]∧u3.hq=false:=by rw[U3.out,U2.out,U1.out];exact⟨rfl,rfl⟩
      rw[HS.out,Mg.z1w,HS.out];obtain⟨a,b,c,d,e,f,g,h,i⟩:=u3;obtain⟨rfl,rfl⟩:=hq;exact hp7
   case rest =>
    obtain⟨r4,hr4⟩:∃ r,r=Mg.z1w r3:=⟨_,rfl⟩;obtain⟨u4,hu4⟩:∃ u,u=({ u3 with qu:=if Mg.isAt 63 r3 then Mg.upto Mg.q1u r3.tail else [],hq:=Mg.isAt 63 r3 }:Mg.U):=⟨_,rfl⟩;rw[← hr4,← hu4] at hcut;have R4:=Ld hr4;have U4:=Ld hu4;clear hr4 hu4 hp7 HT HI
    rename_i we
    have hp3:=hcut;clear hcut;obtain⟨f1,f2,_,_,_⟩:=hp3.facts;go_wp2_with fail;refine(z4t _ r4 _ [35] rfl _ f1 f2).mono ?_;rintro e w7 ⟨rfl,hw7⟩;have hp7:PSt w w7 (Lib.trimPrefix r4 [35]) u4:=by rw[hw7];exact hp3.left _ (q57 _ _)
    clear hw7 f1 f2 hp3;have HT:=Ld (q56 r4 [35]);have HI:=Ld (q98 35 r4);go_upto_if 41 with fail
    go_cut [] (fun wx=>∃ r5,PSt w wx r5 { u4 with fr:=if Mg.isAt 35 r4 then r4.tail else [],hf:=Mg.isAt 35 r4 })
    case first =>
     cases hsl:Mg.pre [35] r4 with
     | true =>
      have e1:Lib.trimPrefix r4 [35]=r4.tail:=by rw[HT.out,hsl];exact List.drop_one
      rw[e1] at hp7;have HS:Hid (Mg.isAt 35 r4=true):=by show _=_;rw[HI.out,hsl]
      clear e1 hsl;have c8:w7.cell? ⟨w.heap.size + 1,8,none⟩=some (.bool u4.hf):=hp7.ucell 8;have f3:w7.frozen? ⟨w.heap.size + 1,8,none⟩=false:=hp7.uu.frozen 8;have c4:w7.cell? ⟨w.heap.size + 1,4,none⟩=some (.string (st u4.fr)):=hp7.ucell 4;have f4:w7.frozen? ⟨w.heap.size + 1,4,none⟩=false:=hp7.uu.frozen 4;have c9:w7.cell? ⟨w.heap.size + 1 + 1,0,none⟩=some (.string (st r4.tail)):=hp7.cut.cell 0;have hp8:=(hp7.put 8 (.bool true) { u4 with hf:=true } rfl).put 4 (.string (st r4.tail)) { u4 with hf:=true,fr:=r4.tail } rfl;go_wp2_with fail;go_meet
      case rel =>
       rw[HS.out,if_pos rfl];exact⟨_,hp8⟩
     | false =>
      have HS:Hid (Mg.isAt 35 r4=false):=by show _=_;rw[HI.out,hsl]
      clear hsl;go_wp2_with fail;go_meet
      case rel =>
       have hq:u4.fr=[]∧u4.hf=false:=by rw[U4.out,U3.out,U2.out,U1.out];exact⟨rfl,rfl⟩
       rw[HS.out];obtain⟨a,b,c,d,e,f,g,h,i⟩:=u4;obtain⟨rfl,rfl⟩:=hq;exact⟨_,hp7⟩
    case rest =>
     obtain⟨r5,hp8⟩:=hcut;clear hp7 HT HI;obtain⟨u5,hu5⟩:∃ u,u=({ u4 with fr:=if Mg.isAt 35 r4 then r4.tail else [],hf:=Mg.isAt 35 r4 }:Mg.U):=⟨_,rfl⟩;rw[← hu5] at hp8;have hfin:u5=Mg.split s.data.toList:=by
      have h1:=R1.out;have h2:=R2.out;have h3:=R3.out;have h4:=R4.out;have h5:=HN.out;subst h5;subst h1;subst h2;subst h3;subst h4;rw[hu5,fr_eq,U4.out,U3.out,U2.out,U1.out];rfl
     have HF:=Ld hfin;clear hu5 hfin;have d0:wc.cell? ⟨w.heap.size + 1,0,none⟩=some (.string (st u5.sch)):=hp8.ucell 0;have d1:wc.cell? ⟨w.heap.size + 1,1,none⟩=some (.string (st u5.au)):=hp8.ucell 1;have d2:wc.cell? ⟨w.heap.size + 1,2,none⟩=some (.string (st u5.pa)):=hp8.ucell 2;have d3:wc.cell? ⟨w.heap.size + 1,3,none⟩=some (.string (st u5.qu)):=hp8.ucell 3;have d4:wc.cell? ⟨w.heap.size + 1,4,none⟩=some (.string (st u5.fr)):=hp8.ucell 4;have d5:wc.cell? ⟨w.heap.size + 1,5,none⟩=some (.bool u5.hs):=hp8.ucell 5;have d6:wc.cell? ⟨w.heap.size + 1,6,none⟩=some (.bool u5.ha):=hp8.ucell 6;have d7:wc.cell? ⟨w.heap.size + 1,7,none⟩=some (.bool u5.hq):=hp8.ucell 7;have d8:wc.cell? ⟨w.heap.size + 1,8,none⟩=some (.bool u5.hf):=hp8.ucell 8;have z0:wc.cell? ⟨w.heap.size,0,none⟩=some (.string (st [])):=hp8.rcell 0;have z1:wc.cell? ⟨w.heap.size,1,none⟩=some (.string (st [])):=hp8.rcell 1;have z2:wc.cell? ⟨w.heap.size,2,none⟩=some (.string (st [])):=hp8.rcell 2;have z3:wc.cell? ⟨w.heap.size,3,none⟩=some (.string (st [])):=hp8.rcell 3;have z4:wc.cell? ⟨w.heap.size,4,none⟩=some (.string (st [])):=hp8.rcell 4;have z5:wc.cell? ⟨w.heap.size,5,none⟩=some (.bool false):=hp8.rcell 5;have z6:wc.cell? ⟨w.heap.size,6,none⟩=some (.bool false):=hp8.rcell 6;have z7:wc.cell? ⟨w.heap.size,7,none⟩=some (.bool false):=hp8.rcell 7;have z8:wc.cell? ⟨w.heap.size,8,none⟩=some (.bool false):=hp8.rcell 8;have y0:wc.frozen? ⟨w.heap.size,0,none⟩=false:=hp8.res.frozen 0;have y1:wc.frozen? ⟨w.heap.size,1,none⟩=false:=hp8.res.frozen 1;have y2:wc.frozen? ⟨w.heap.size,2,none⟩=false:=hp8.res.frozen 2;have y3:wc.frozen? ⟨w.heap.size,3,none⟩=false:=hp8.res.frozen 3;have y4:wc.frozen? ⟨w.heap.size,4,none⟩=false:=hp8.res.frozen 4;have y5:wc.frozen? ⟨w.heap.size,5,none⟩=false:=hp8.res.frozen 5;have y6:wc.frozen? ⟨w.heap.size,6,none⟩=false:=hp8.res.frozen 6;have y7:wc.frozen? ⟨w.heap.size,7,none⟩=false:=hp8.res.frozen 7;have y8:wc.frozen? ⟨w.heap.size,8,none⟩=false:=hp8.res.frozen 8;go_wp2_with fail;refine bodyPost_ret (v:=uVal u5) (by simp[results,results197,go_sem, *];rfl) rfl ⟨by rw[HF.out],?_⟩;exact((((((((hp8.below.setCell (Lr) _).setCell (Lr) _).setCell (Lr) _).setCell (Lr) _).setCell (Lr) _).setCell (Lr) _).setCell (Lr) _).setCell (Lr) _).setCell (Lr) _
end Go.Proofs.YtagleefekmdldaaGreatDoor
