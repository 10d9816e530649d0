/- Contracts of merged, Resolved and Resolve. Condition: a base and a link of at most 3000 bytes. -/
import Derived.Test.YtjonkbdldebkiaaGreatDoorYMkFlat1
import Derived.Deep.CutBlock
import Derived.Test.YtjonkbdldebkiaaGreatDoorYMkTree9
import Derived.Deep.RegionWith
set_option linter.unusedVariables false
set_option linter.unusedSimpArgs false
set_option maxHeartbeats 8000000
set_option maxRecDepth 100000
namespace Go.Proofs.YtjonkbdldebkiaaGreatDoor
open Go.RowKit

theorem j1x (a b:List UInt8) (hb:(47:UInt8) ∉ b) (ha:a=[]∨∃ t,a=t++[47]):((a++b).reverse.dropWhile (· != 47)).reverse=a:=by
 rw[List.reverse_append,Mg.z6x _ _ (by simpa using hb)]
 rcases ha with rfl | ⟨t,rfl⟩
 ·rfl
 ·simp
theorem last_cases (s:ByteArray):∃ m,m≤s.size∧(s.data.toList.reverse.dropWhile (· != 47)).reverse=s.data.toList.take m∧Lib.lastIndexByte s 47=(m:Int) - 1:=by
 have hget:∀ j (hj:j < s.size),s.data[j]! = s.data.toList[j]'(by simpa using hj):=fun j hj=>by
  have h1:j < s.data.size:=hj;rw[getElem!_pos s.data j h1];simp
 have hlen:s.data.toList.length=s.size:=by simp
 rcases Lib.lastIdx_spec s 47 s.size with ⟨h1,h2⟩ | ⟨i,hi,h1,h2,h3⟩
 ·refine⟨0,Nat.zero_le _,?_,by unfold Lib.lastIndexByte;omega⟩
  have h:=j1x [] s.data.toList (by
   intro hm;obtain⟨j,hj,he⟩:=List.getElem_of_mem hm;have hjs:j < s.size:=by omega
   have:=h2 j hjs;rw[hget j hjs,he] at this;exact this rfl) (.inl rfl)
  simpa using h
 ·refine⟨i + 1,by omega,?_,by unfold Lib.lastIndexByte;omega⟩
  have hil:i < s.data.toList.length:=by omega
  have e47:s.data.toList[i]=47:=by
   rw[hget i hi] at h2;exact UInt8.toNat_inj.1 (by rw[show (47:UInt8).toNat=47 from rfl];omega)
  have h:=j1x (s.data.toList.take (i + 1)) (s.data.toList.drop (i + 1)) (by
   intro hm;obtain⟨j,hj,he⟩:=List.getElem_of_mem hm;rw[List.length_drop] at hj;rw[List.getElem_drop] at he;have hjs:i + 1 + j < s.size:=by omega
   have:=h3 (i + 1 + j) (by omega) hjs;rw[hget _ hjs,he] at this;exact this rfl) (.inr ⟨s.data.toList.take i,by rw[List.take_succ_eq_append_getElem hil,e47]⟩)
  rwa [List.take_append_drop] at h

theorem j6k (b u:Mg.U) (w:World) (hb:b.pa.length≤67108864) (hu:u.pa.length≤67108864) :
  Calls Tryz.prog 184 #[uVal b,uVal u] w fun e w'=>e=.returned (.string (st (Mg.z88 b u)))∧Below w.heap.size w w':=by
 have hw2:Below w.heap.size w ((w.alloc (.cells (z00 b) 125)).alloc (.cells (z00 u) 125)):=((Below.refl _ w).alloc (Nat.le_refl _) _).alloc (by simp) _;have b1:=Blk.new (w.alloc (.cells (z00 b) 125)) 125 (z00 u);have e1:(w.alloc (.cells (z00 b) 125)).heap.size=w.heap.size + 1:=by simp
 rw[e1] at b1;have b0:=(Blk.new w 125 (z00 b)).alloc (.cells (z00 u) 125);clear e1;unfold uVal;go_enter Tryz.func184,Tryz.ntmps184;go_upto_region 1 with fail;change Code.wp _ _ _ _ ((w.alloc (.cells (z00 b) 125)).alloc (.cells (z00 u) 125));generalize (w.alloc (.cells (z00 b) 125)).alloc (.cells (z00 u) 125)=w2 at hw2 b0 b1 ⊢;have c1:w2.cell? ⟨w.heap.size,6,none⟩=some (.bool b.ha):=b0.cell 6;have c2:w2.cell? ⟨w.heap.size,2,none⟩=some (.string (st b.pa)):=b0.cell 2;have c3:w2.cell? ⟨w.heap.size + 1,2,none⟩=some (.string (st u.pa)):=b1.cell 2;clear b0 b1;have z1:(st b.pa).size≤67108864:=hb;have z2:(st u.pa).size≤67108864:=hu
 by_cases hc:b.ha=true∧b.pa=[]
 ·obtain⟨h1,h2⟩:=hc
  rw[h1] at c1;rw[h2] at c2;have he:(st []).toList=[]:=Lib.toList_data _;have HM:Hid (Mg.z88 b u=47 :: u.pa):=by show _=_;simp[Mg.z88,h1,h2]
  clear h1 h2;go_wp2_with fail;go_ret;refine⟨?_,hw2⟩;rw[HM.out];exact q08 (z3n _ _)
 ·have HNF:Hid ((b.ha && b.pa.isEmpty)=false):=by
   show _=_
   cases hx:b.ha with
   | false=>rfl
   | true =>
    cases hy:b.pa with
    | nil=>exact absurd ⟨hx,hy⟩ hc
    | cons _ _=>rfl
  obtain⟨m,m1,m2,m3⟩:=last_cases (st b.pa);have HM:Hid (Mg.z88 b u=b.pa.take m++u.pa):=by
   show _=_;have hf:(b.ha && b.pa.isEmpty)=false:=HNF.out;rw[Mg.z88,if_neg (by rw[hf];exact Bool.false_ne_true)];exact congrArg (·++u.pa) m2
  have M3:=Lib.hid m3;clear m2 m3;have m4:(m:Int)≤(st b.pa).size:=by omega
  have lc:=fun W=>(Tryz.strings_LastIndexByte (st b.pa) 47 (by omega) W)
  rw[M3.out] at lc;have LC:=Lib.hid lc;clear lc;have k1:(0:Int)≤(m:Int) - 1 + 1:=by omega
  have k2:IntKind.i64.wrap ((m:Int) - 1 + 1)=(m:Int):=by rw[IntWalk.i64_in _ (by omega)];omega
  have k3:((st b.pa).extract 0 m).size≤67108864:=by rw[z3s];simp[y9];omega
  by_cases hha:b.ha=true
  ·rw[hha] at c1
   have he:(st b.pa).toList.isEmpty=false:=by
    have e1:(st b.pa).toList=b.pa:=Lib.toList_data _;rw[e1];have:=HNF.out;rw[hha] at this
    simpa using this
   clear hha hc;go_upto_region 3 with fail
   go_quiet ((go_at_call 231;exact Calls.quiet_of_same (LC.out _)))
   go_wp2_with fail;go_ret;refine⟨?_,below_drewN hw2 _⟩;rw[HM.out];refine q08 ?_;rw[z3s,z3n];rfl
  ·have hha':b.ha=false:=by simpa using hha
   rw[hha'] at c1;clear hha hha' hc;go_upto_region 3 with fail
   go_quiet ((go_at_call 231;exact Calls.quiet_of_same (LC.out _)))
   go_wp2_with fail;go_ret;refine⟨?_,below_drewN hw2 _⟩;rw[HM.out];refine q08 ?_;rw[z3s,z3n];rfl

def z4c (b u:Mg.U):List UInt8:=if u.hs || u.ha then u.pa else if u.pa=[] then b.pa else if Mg.isAt 47 u.pa then u.pa else Mg.z88 b u
def rU1 (b u:Mg.U):Mg.U:=if u.hs || u.ha then u else if u.pa=[] then (if u.hq then u else { u with qu:=b.qu,hq:=b.hq }) else u
def rU2 (b u:Mg.U):Mg.U:=if u.hs then rU1 b u else if u.ha then { rU1 b u with sch:=b.sch,hs:=true } else { rU1 b u with sch:=b.sch,hs:=true,au:=b.au,ha:=b.ha }
theorem rU_res (b u:Mg.U) : { rU2 b u with pa:=Mg.dots (z4c b u) } = Mg.resU b u:=by
 obtain⟨s,a,p,q,f,hs,ha,hq,hf⟩:=u;unfold Mg.resU rU2 rU1 z4c
 cases hs <;> cases ha <;> cases hq <;> by_cases hp:p=[] <;> simp[hp]
theorem z7r (s:List UInt8):(Mg.split s).sch.length≤s.length∧(Mg.split s).au.length≤s.length∧(Mg.split s).pa.length≤s.length∧(Mg.split s).qu.length≤s.length∧(Mg.split s).fr.length≤s.length:=by
 have a1:(Mg.X0 s).length≤s.length:=by unfold Mg.X0;split <;> simp
 have a2:∀ r,(Mg.z0m r).length≤r.length:=fun r=>by
  unfold Mg.z0m;split
  ·refine Nat.le_trans (z7p _ _) ?_;simp
  ·omega
 have a3:∀ r,(Mg.z1a r).length≤r.length:=fun r=>by
  unfold Mg.z1a;split
  ·refine Nat.le_trans (z7p _ _) ?_;simp
  ·omega
 have up:∀ p r,(Mg.upto p r).length≤r.length:=fun p r=>(List.takeWhile_prefix _).length_le
 have b2:=a2 (Mg.X0 s);have b3:=z7p Mg.z1t (Mg.z0m (Mg.X0 s));have b4:=a3 (Mg.past Mg.z1t (Mg.z0m (Mg.X0 s)));refine⟨?_,?_,?_,?_,?_⟩
 ·show (if _ then _ else _:List UInt8).length≤_
  split <;> simp;omega
 ·show (if _ then _ else _:List UInt8).length≤_
  split
  ·have:=up Mg.q39 ((Mg.X0 s).drop 2);rw[List.length_drop] at this;omega
  ·simp
 ·have:=up Mg.z1t (Mg.z0m (Mg.X0 s));show (Mg.upto _ _).length≤_;omega
 ·show (if _ then _ else _:List UInt8).length≤_
  split
  ·have:=up Mg.q0c (Mg.past Mg.z1t (Mg.z0m (Mg.X0 s))).tail;rw[List.length_tail] at this;omega
  ·simp
 ·show (List.tail _).length≤_
  rw[List.length_tail];omega
theorem merge_le (b u:Mg.U):(Mg.z88 b u).length≤b.pa.length + u.pa.length + 1:=by
 unfold Mg.z88
 split
 ·simp
 ·have:=(List.dropWhile_suffix (l:=b.pa.reverse) (fun c:UInt8=>c != 47)).length_le
  simp at this ⊢;omega
theorem j2g (b u:Mg.U):(z4c b u).length≤b.pa.length + u.pa.length + 1:=by
 have:=merge_le b u;unfold z4c
 split
 ·omega
 split
 ·omega
 split <;> omega

theorem rU2_le (b u:Mg.U):(rU2 b u).sch.length≤b.sch.length + u.sch.length∧(rU2 b u).au.length≤b.au.length + u.au.length∧(rU2 b u).qu.length≤b.qu.length + u.qu.length∧(rU2 b u).fr.length≤u.fr.length:=by
 obtain⟨s,a,p,q,f,hs,ha,hq,hf⟩:=u;unfold rU2 rU1
 cases hs <;> cases ha <;> cases hq <;> by_cases hp:p=[] <;> simp[hp] <;> omega
structure RSt (w wk:World) (B:Nat) (b u:Mg.U):Prop where
 le:w.heap.size≤B
 below:Below w.heap.size w wk
 bb:Blk wk B 125 (z00 b)
 uu:Blk wk (B + 1) 125 (z00 u)
theorem RSt.grow {w wk w1:World} {B:Nat} {b u:Mg.U} (h:RSt w wk B b u) (hb:Below wk.heap.size wk w1):RSt w w1 B b u :=
 ⟨h.le,h.below.trans (hb.mono h.below.size),h.bb.below hb h.bb.lt,h.uu.below hb h.uu.lt⟩
theorem RSt.drew {w wk:World} {B:Nat} {b u:Mg.U} (h:RSt w wk B b u) (n:Nat):RSt w (wk.drewN n) B b u :=
 ⟨h.le,below_drewN h.below n,h.bb.drewN n,h.uu.drewN n⟩
theorem RSt.drew1 {w wk:World} {B:Nat} {b u:Mg.U} (h:RSt w wk B b u):RSt w wk.drew B b u:=⟨h.le,h.below.drew,h.bb.drew,h.uu.drew⟩
theorem RSt.put {w wk:World} {B:Nat} {b u:Mg.U} (h:RSt w wk B b u) (i:Nat) (v:Value) (u':Mg.U) (hu:(z00 u).setIfInBounds i v=z00 u'):RSt w (wk.setCell ⟨B + 1,i,none⟩ v) B b u' :=
 ⟨h.le,h.below.setCell (by have:=h.le;show _≤B + 1;omega) _,h.bb.far (by show B ≠ B + 1;omega) _,by rw[← hu];exact h.uu.set_ i v⟩
theorem RSt.start {w w2:World} (b u:Mg.U) (hb:Below w.heap.size w w2):RSt w ((w2.alloc (.cells (z00 b) 125)).alloc (.cells (z00 u) 125)) w2.heap.size b u:=by
 have e1:(w2.alloc (.cells (z00 b) 125)).heap.size=w2.heap.size + 1:=by simp
 have b1:=Blk.new (w2.alloc (.cells (z00 b) 125)) 125 (z00 u);rw[e1] at b1;have:=hb.size;exact⟨hb.size,(hb.alloc hb.size _).alloc (by omega) _,(Blk.new w2 _ _).alloc _,b1⟩

theorem q0w (base s:ByteArray) (w:World) (hb:base.size≤3000) (hs:s.size≤3000) :
  Calls Tryz.prog 125 #[.string base,.string s] w fun e w'=>e=.returned (.tuple #[.string (st (Mg.join (Mg.resU (Mg.split base.data.toList) (Mg.split s.data.toList)))),.bool (Mg.z9c (Mg.resU (Mg.split base.data.toList) (Mg.split s.data.toList)))])∧Below w.heap.size w w':=by
 go_enter Tryz.func125,Tryz.ntmps125;go_wp2_with fail;refine(z9m base _ (by omega)).mono ?_;rintro e w1 ⟨rfl,hb1⟩;obtain⟨b,hbe⟩:∃ b,b=Mg.split base.data.toList:=⟨_,rfl⟩;rw[← hbe];have BE:=Lib.hid hbe;clear hbe;go_wp2_with fail;refine(z9m s _ (by omega)).mono ?_;rintro e w2 ⟨rfl,hb2⟩;obtain⟨u,hue⟩:∃ u,u=Mg.split s.data.toList:=⟨_,rfl⟩;rw[← hue];have UE:=Lib.hid hue;have hbw:=hb1.trans (hb2.mono hb1.size);have r0:=RSt.start b u hbw;clear hb1 hb2 hue hbw;unfold uVal;go_upto_region 2 with fail;change Code.wp _ _ _ _ ((w2.alloc (.cells (z00 b) 125)).alloc (.cells (z00 u) 125));generalize (w2.alloc (.cells (z00 b) 125)).alloc (.cells (z00 u) 125)=w3 at r0 ⊢;generalize w2.heap.size=B at r0 ⊢;have c2:w3.cell? ⟨B + 1,2,none⟩=some (.string (st u.pa)):=r0.uu.cell 2;have c5:w3.cell? ⟨B + 1,5,none⟩=some (.bool u.hs):=r0.uu.cell 5;have c6:w3.cell? ⟨B + 1,6,none⟩=some (.bool u.ha):=r0.uu.cell 6
 go_upto_block 0 with fail
 go_cut [8] (fun s8 wx=>s8=.string (st (z4c b u))∧RSt w wx B b (rU1 b u))
 case first =>
  by_cases hsa:u.hs=true∨u.ha=true
  ·have P:Hid (z4c b u=u.pa∧rU1 b u=u):=by
    have h:(u.hs || u.ha)=true:=by simpa using hsa
    exact⟨by simp[z4c,h],by simp[rU1,h]⟩
   by_cases h1:u.hs=true
   ·rw[h1] at c5
    clear h1 hsa;go_wp2_with fail;go_meet
    case rel=>rw[P.out.1,P.out.2];exact⟨rfl,r0⟩
   ·have h2:u.ha=true:=hsa.resolve_left h1
    have h3:u.hs=false:=by simpa using h1
    rw[h3] at c5;rw[h2] at c6;clear h1 h2 h3 hsa;go_wp2_with fail;go_meet
    case rel=>rw[P.out.1,P.out.2];exact⟨rfl,r0⟩
  ·have h3:u.hs=false:=by cases h:u.hs with | false=>rfl | true=>exact absurd (.inl h) hsa
   have h4:u.ha=false:=by cases h:u.ha with | false=>rfl | true=>exact absurd (.inr h) hsa
   have H:Hid ((u.hs || u.ha)=false):=by show _=_;rw[h3,h4];rfl
   rw[h3] at c5;rw[h4] at c6;clear h3 h4 hsa
   by_cases hp:u.pa=[]
   ·have hpe:(st u.pa).toList=[]:=by rw[hp];exact Lib.toList_data _
    have cb:w3.cell? ⟨B,2,none⟩=some (.string (st b.pa)):=r0.bb.cell 2;have c7:w3.cell? ⟨B + 1,7,none⟩=some (.bool u.hq):=r0.uu.cell 7
    cases hq:u.hq with
    | true =>
     rw[hq] at c7;have P:Hid (z4c b u=b.pa∧rU1 b u=u):=⟨by simp[z4c,H.out,hp],by simp[rU1,H.out,hp,hq]⟩;clear hq hp;go_wp2_with fail;go_meet
     case rel=>rw[P.out.1,P.out.2];exact⟨rfl,r0⟩
    | false =>
     rw[hq] at c7;have P:Hid (z4c b u=b.pa∧rU1 b u = { u with qu:=b.qu,hq:=b.hq }):=⟨by simp[z4c,H.out,hp],by simp[rU1,H.out,hp,hq]⟩;have d3:w3.cell? ⟨B,3,none⟩=some (.string (st b.qu)):=r0.bb.cell 3;have d7:w3.cell? ⟨B,7,none⟩=some (.bool b.hq):=r0.bb.cell 7;have c3:w3.cell? ⟨B + 1,3,none⟩=some (.string (st u.qu)):=r0.uu.cell 3;have f3:w3.frozen? ⟨B + 1,3,none⟩=false:=r0.uu.frozen 3;have f7:w3.frozen? ⟨B + 1,7,none⟩=false:=r0.uu.frozen 7;clear hq hp;go_wp2_with fail
     go_region
     all_goals
      go_wp2_with fail;go_meet
      case rel =>
       rw[P.out.1,P.out.2];exact⟨rfl,((r0.put 3 (.string (st b.qu)) { u with qu:=b.qu } rfl).put 7 (.bool b.hq) { u with qu:=b.qu,hq:=b.hq } rfl).drew1⟩
   ·have hpe:(st u.pa).toList.isEmpty=false:=by
     have e1:(st u.pa).toList=u.pa:=Lib.toList_data _;rw[e1]
     cases hx:u.pa with
     | nil=>exact absurd hx hp
     | cons _ _=>rfl
    have hpos:0 < (st u.pa).size:=List.length_pos_iff.2 hp;obtain⟨c,t,hct⟩:=List.exists_cons_of_ne_nil hp;have hc0:(st u.pa)[0]'hpos=c:=by
     have h:(st u.pa).data.toList[0]? = some ((st u.pa)[0]'hpos):=Lib.data_getElem? (st u.pa) 0 hpos;have h2:(st u.pa).data.toList[0]? = some c:=by rw[z0y,hct];rfl
     rw[h2] at h;injection h with h;exact h.symm
    by_cases h47:c=47
    ·have hne:((((st u.pa)[0]'hpos).toNat:Int) != 47)=false:=by rw[hc0,h47];decide
     have P:Hid (z4c b u=u.pa∧rU1 b u=u):=⟨by simp[z4c,H.out,hct,Mg.isAt,h47],by simp[rU1,H.out,hp]⟩;clear hc0 hct hp;go_wp2_with fail;go_meet
     case rel=>rw[P.out.1,P.out.2];exact⟨rfl,r0⟩
    ·have hne:((((st u.pa)[0]'hpos).toNat:Int) != 47)=true:=by
      rw[hc0,bne_iff_ne];intro e;exact h47 (UInt8.toNat_inj.1 (by rw[show (47:UInt8).toNat=47 from rfl];omega))
     have P:Hid (z4c b u=Mg.z88 b u∧rU1 b u=u):=⟨by simp[z4c,H.out,hct,Mg.isAt,h47],by simp[rU1,H.out,hp]⟩;clear hc0 hct hp;have m0:w3.cell? ⟨B,0,none⟩=some (.string (st b.sch)):=r0.bb.cell 0;have n0:w3.cell? ⟨B + 1,0,none⟩=some (.string (st u.sch)):=r0.uu.cell 0;have m1:w3.cell? ⟨B,1,none⟩=some (.string (st b.au)):=r0.bb.cell 1;have n1:w3.cell? ⟨B + 1,1,none⟩=some (.string (st u.au)):=r0.uu.cell 1;have m2:w3.cell? ⟨B,2,none⟩=some (.string (st b.pa)):=r0.bb.cell 2;have n2:w3.cell? ⟨B + 1,2,none⟩=some (.string (st u.pa)):=r0.uu.cell 2;have m3:w3.cell? ⟨B,3,none⟩=some (.string (st b.qu)):=r0.bb.cell 3;have n3:w3.cell? ⟨B + 1,3,none⟩=some (.string (st u.qu)):=r0.uu.cell 3;have m4:w3.cell? ⟨B,4,none⟩=some (.string (st b.fr)):=r0.bb.cell 4;have n4:w3.cell? ⟨B + 1,4,none⟩=some (.string (st u.fr)):=r0.uu.cell 4;have m5:w3.cell? ⟨B,5,none⟩=some (.bool b.hs):=r0.bb.cell 5;have n5:w3.cell? ⟨B + 1,5,none⟩=some (.bool u.hs):=r0.uu.cell 5;have m6:w3.cell? ⟨B,6,none⟩=some (.bool b.ha):=r0.bb.cell 6;have n6:w3.cell? ⟨B + 1,6,none⟩=some (.bool u.ha):=r0.uu.cell 6;have m7:w3.cell? ⟨B,7,none⟩=some (.bool b.hq):=r0.bb.cell 7;have n7:w3.cell? ⟨B + 1,7,none⟩=some (.bool u.hq):=r0.uu.cell 7;have m8:w3.cell? ⟨B,8,none⟩=some (.bool b.hf):=r0.bb.cell 8;have n8:w3.cell? ⟨B + 1,8,none⟩=some (.bool u.hf):=r0.uu.cell 8;go_wp2_with fail;refine(j6k b { u with hs:=false,ha:=false } _ (by have:=z7r base.data.toList;rw[BE.out];simp at this ⊢;omega) (by have:=z7r s.data.toList;rw[UE.out];simp at this ⊢;omega)).mono ?_;rintro e w4 ⟨rfl,hb4⟩;have r1:=r0.grow hb4;clear hb4;go_wp2_with fail;go_meet
     case rel=>rw[P.out.1,P.out.2];exact⟨rfl,r1⟩
 case rest =>
  obtain⟨rfl,r1⟩:=hcut;clear c2 c5 c6 r0;obtain⟨u1,hu1⟩:∃ u1,u1=rU1 b u:=⟨_,rfl⟩;have hks:u1.hs=u.hs∧u1.ha=u.ha:=by rw[hu1];unfold rU1;split;exact⟨rfl,rfl⟩;split;split;exact⟨rfl,rfl⟩;exact⟨rfl,rfl⟩;exact⟨rfl,rfl⟩
  rw[← hu1] at r1;have H1:=Lib.hid hu1;have HK:=Lib.hid hks;clear hu1 hks;have c5:wc.cell? ⟨B + 1,5,none⟩=some (.bool u1.hs):=r1.uu.cell 5;go_upto_if 45 with fail
  go_cut [] (fun wx=>RSt w wx B b (rU2 b u))
  case first =>
   cases h:u1.hs with
   | true =>
    rw[h] at c5;have P:Hid (rU2 b u=u1):=by show _=_;rw[rU2,if_pos (by rw[← HK.out.1];exact h),H1.out]
    clear h;go_wp2_with fail;go_meet
    case rel=>rw[P.out];exact r1
   | false =>
    rw[h] at c5;have hns:¬ u.hs=true:=by rw[← HK.out.1,h];exact Bool.false_ne_true
    have d0:wc.cell? ⟨B,0,none⟩=some (.string (st b.sch)):=r1.bb.cell 0;have c0:wc.cell? ⟨B + 1,0,none⟩=some (.string (st u1.sch)):=r1.uu.cell 0;have c6:wc.cell? ⟨B + 1,6,none⟩=some (.bool u1.ha):=r1.uu.cell 6;have f0:wc.frozen? ⟨B + 1,0,none⟩=false:=r1.uu.frozen 0;have f5:wc.frozen? ⟨B + 1,5,none⟩=false:=r1.uu.frozen 5;have r2:=(r1.put 0 (.string (st b.sch)) { u1 with sch:=b.sch } rfl).put 5 (.bool true) { u1 with sch:=b.sch,hs:=true } rfl
    cases h6:u1.ha with
    | true =>
     rw[h6] at c6;have P:Hid (rU2 b u = { u1 with sch:=b.sch,hs:=true }):=by show _=_;rw[rU2,if_neg hns,if_pos (by rw[← HK.out.2];exact h6),H1.out]
     clear h h6 hns;go_wp2_with fail;go_meet
     case rel=>rw[P.out];exact r2
    | false =>
     rw[h6] at c6;have P:Hid (rU2 b u = { u1 with sch:=b.sch,hs:=true,au:=b.au,ha:=b.ha }):=by show _=_;rw[rU2,if_neg hns,if_neg (by rw[← HK.out.2,h6];exact Bool.false_ne_true),H1.out]
     have d1:wc.cell? ⟨B,1,none⟩=some (.string (st b.au)):=r1.bb.cell 1;have d6:wc.cell? ⟨B,6,none⟩=some (.bool b.ha):=r1.bb.cell 6;have c1:wc.cell? ⟨B + 1,1,none⟩=some (.string (st u1.au)):=r1.uu.cell 1;have f1:wc.frozen? ⟨B + 1,1,none⟩=false:=r1.uu.frozen 1;have f6:wc.frozen? ⟨B + 1,6,none⟩=false:=r1.uu.frozen 6;clear h h6 hns;go_wp2_with fail
     go_region
     all_goals
      go_wp2_with fail;go_meet
      case rel =>
       rw[P.out];exact((r2.put 1 (.string (st b.au)) { u1 with sch:=b.sch,hs:=true,au:=b.au } rfl).put 6 (.bool b.ha) { u1 with sch:=b.sch,hs:=true,au:=b.au,ha:=b.ha } rfl).drew1
  case rest =>
   obtain⟨u2,hu2⟩:∃ u2,u2=rU2 b u:=⟨_,rfl⟩;rw[← hu2] at hcut;have H2:=Lib.hid hu2;clear hu2 c5 r1;have lb:=z7r base.data.toList;have ls:=z7r s.data.toList;have lp:=j2g b u;rw[← BE.out] at lb;rw[← UE.out] at ls;simp only [bs_len] at lb ls;go_wp2_with fail;refine(q3d _ _ (by show (z4c b u).length≤_;omega)).mono ?_;rintro e w4 ⟨rfl,hb4⟩;have r3:=hcut.grow hb4;change RSt w w4 B b u2 at r3;have c2:w4.cell? ⟨B + 1,2,none⟩=some (.string (st u2.pa)):=r3.uu.cell 2;have f2:w4.frozen? ⟨B + 1,2,none⟩=false:=r3.uu.frozen 2;obtain⟨u3,hu3⟩:∃ u3,u3=({ u2 with pa:=Mg.dots (z4c b u) }:Mg.U):=⟨_,rfl⟩;have r4:RSt w (w4.setCell ⟨B + 1,2,none⟩ (.string (st (Mg.dots (z4c b u))))) B b u3:=by rw[hu3];exact r3.put 2 _ _ rfl
   have hres:u3=Mg.resU b u:=by rw[hu3,H2.out];exact rU_res b u
   have lu:u3.sch.length + u3.au.length + u3.pa.length + u3.qu.length + u3.fr.length≤1048576:=by
    have h1:=rU2_le b u;have h2:=Mg.q5i (z4c b u);rw[hu3,H2.out];simp only;omega
   have HR:=Lib.hid hres;clear hu3 hres;go_upto_region 15 with fail;change Code.wp _ _ _ _ (w4.setCell ⟨B + 1,2,none⟩ (.string (st (Mg.dots (z4c b u)))));generalize w4.setCell ⟨B + 1,2,none⟩ (.string (st (Mg.dots (z4c b u))))=w5 at r4 ⊢;clear c2 f2 r3;have n0:w5.cell? ⟨B + 1,0,none⟩=some (.string (st u3.sch)):=r4.uu.cell 0;have n1:w5.cell? ⟨B + 1,1,none⟩=some (.string (st u3.au)):=r4.uu.cell 1;have n2:w5.cell? ⟨B + 1,2,none⟩=some (.string (st u3.pa)):=r4.uu.cell 2;have n3:w5.cell? ⟨B + 1,3,none⟩=some (.string (st u3.qu)):=r4.uu.cell 3;have n4:w5.cell? ⟨B + 1,4,none⟩=some (.string (st u3.fr)):=r4.uu.cell 4;have n5:w5.cell? ⟨B + 1,5,none⟩=some (.bool u3.hs):=r4.uu.cell 5;have n6:w5.cell? ⟨B + 1,6,none⟩=some (.bool u3.ha):=r4.uu.cell 6;have n7:w5.cell? ⟨B + 1,7,none⟩=some (.bool u3.hq):=r4.uu.cell 7;have n8:w5.cell? ⟨B + 1,8,none⟩=some (.bool u3.hf):=r4.uu.cell 8;go_wp2_with fail;refine(q52 u3 _ lu).mono ?_;rintro e w6 ⟨rfl,hb6⟩;go_wp2_with fail;go_ret2;exact⟨by rw[← BE.out,← UE.out,← HR.out];rfl,r4.below.trans (hb6.mono r4.below.size)⟩

theorem q1d (base s:ByteArray) (w:World) (h:3000 < base.size∨3000 < s.size) :
  Calls Tryz.prog 76 #[.string base,.string s] w fun e w'=>e=.returned (.tuple #[.string (st []),.int .i64 2])∧Below w.heap.size w w':=by
 by_cases hb:3000 < base.size
 ·have hd:decide (3000 < base.size)=true:=by simpa using hb
  go_enter Tryz.func76,Tryz.ntmps76;go_wp2_with (go_at_call 82;refine(z1l _ _).mono ?_;rintro e w' ⟨rfl,rfl⟩;rw[hd]);go_ret2;exact⟨rfl,Below.refl _ _⟩
 ·have hd:decide (3000 < base.size)=false:=by simpa using hb
  have hd2:decide (3000 < s.size)=true:=by simpa using h.resolve_left hb
  clear hb h;go_enter Tryz.func76,Tryz.ntmps76;go_wp2_with fail;refine(z1l base _).mono ?_;rintro e w' ⟨rfl,rfl⟩;rw[hd];go_wp2_with fail;refine(z1l s _).mono ?_;rintro e w' ⟨rfl,rfl⟩;rw[hd2];go_wp2_with fail;go_ret2;exact⟨rfl,Below.refl _ _⟩

theorem q1c (base s:ByteArray) (w:World) (hb:base.size≤3000) (hs:s.size≤3000) (h0:Mg.z0n base.data.toList=0) :
  Calls Tryz.prog 76 #[.string base,.string s] w fun e w'=>e=.returned (.tuple #[.string (st []),.int .i64 1])∧Below w.heap.size w w':=by
 have hd:decide (3000 < base.size)=false:=decide_eq_false (by omega);have hd2:decide (3000 < s.size)=false:=decide_eq_false (by omega);have H0:=Lib.hid h0;clear h0;go_enter Tryz.func76,Tryz.ntmps76;go_wp2_with fail;refine(z1l base _).mono ?_;rintro e w' ⟨rfl,rfl⟩;rw[hd];go_wp2_with fail;refine(z1l s _).mono ?_;rintro e w' ⟨rfl,rfl⟩;rw[hd2];go_wp2_with fail;refine(z5l base _ (by omega)).mono ?_;rintro e w1 ⟨rfl,hb1⟩;rw[H0.out];go_wp2_with fail;go_ret2;exact⟨rfl,hb1⟩

theorem q3p (base s:ByteArray) (w:World) (hb:base.size≤3000) (hs:s.size≤3000) (h0:Mg.z0n base.data.toList ≠ 0) (hn:Mg.z9c (Mg.resU (Mg.split base.data.toList) (Mg.split s.data.toList))=false) :
  Calls Tryz.prog 76 #[.string base,.string s] w fun e w'=>e=.returned (.tuple #[.string (st []),.int .i64 1])∧Below w.heap.size w w':=by
 have hd:decide (3000 < base.size)=false:=decide_eq_false (by omega);have hd2:decide (3000 < s.size)=false:=decide_eq_false (by omega);obtain⟨n,hne⟩:∃ n,n=Mg.z0n base.data.toList:=⟨_,rfl⟩;rw[← hne] at h0;have hz:((n:Int) == 0)=false:=beq_eq_false_iff_ne.2 (by omega);have HN:=Lib.hid hne;have HJ:=Lib.hid hn;clear hne hn;go_enter Tryz.func76,Tryz.ntmps76;go_wp2_with fail;refine(z1l base _).mono ?_;rintro e w' ⟨rfl,rfl⟩;rw[hd];go_wp2_with fail;refine(z1l s _).mono ?_;rintro e w' ⟨rfl,rfl⟩;rw[hd2];go_wp2_with fail;refine(z5l base _ (by omega)).mono ?_;rintro e w1 ⟨rfl,hb1⟩;rw[← HN.out];go_wp2_with fail;refine(q0w base s _ hb hs).mono ?_;rintro e w2 ⟨rfl,hb2⟩;rw[HJ.out];go_wp2_with fail;go_ret2;exact⟨rfl,hb1.trans (hb2.mono hb1.size)⟩

theorem z8f (base s:ByteArray) (w:World) (hb:base.size≤3000) (hs:s.size≤3000) (h0:Mg.z0n base.data.toList ≠ 0) (hn:Mg.z9c (Mg.resU (Mg.split base.data.toList) (Mg.split s.data.toList))=true) :
  Calls Tryz.prog 76 #[.string base,.string s] w fun e w'=>e=.returned (.tuple #[.string (st (Mg.join (Mg.resU (Mg.split base.data.toList) (Mg.split s.data.toList)))),.int .i64 0])∧Below w.heap.size w w':=by
 have hd:decide (3000 < base.size)=false:=decide_eq_false (by omega);have hd2:decide (3000 < s.size)=false:=decide_eq_false (by omega);obtain⟨n,hne⟩:∃ n,n=Mg.z0n base.data.toList:=⟨_,rfl⟩;rw[← hne] at h0;have hz:((n:Int) == 0)=false:=beq_eq_false_iff_ne.2 (by omega);have HN:=Lib.hid hne;have HJ:=Lib.hid hn;clear hne hn;go_enter Tryz.func76,Tryz.ntmps76;go_wp2_with fail;refine(z1l base _).mono ?_;rintro e w' ⟨rfl,rfl⟩;rw[hd];go_wp2_with fail;refine(z1l s _).mono ?_;rintro e w' ⟨rfl,rfl⟩;rw[hd2];go_wp2_with fail;refine(z5l base _ (by omega)).mono ?_;rintro e w1 ⟨rfl,hb1⟩;rw[← HN.out];go_wp2_with fail;refine(q0w base s _ hb hs).mono ?_;rintro e w2 ⟨rfl,hb2⟩;rw[HJ.out];go_wp2_with fail;go_ret2;exact⟨rfl,hb1.trans (hb2.mono hb1.size)⟩
theorem q8z (base s:List UInt8) (w:World) :
  Calls Tryz.prog 175 #[.string (st base),.string (st s)] w fun e w'=>e=.returned (.string (st (Mk.light base s)))∧Below w.heap.size w w':=by
 have walk:∀ (x:List UInt8) (c:Int),(c=0→Mk.light base s=x)→(c ≠ 0→Mk.light base s=s)→(Calls Tryz.prog 76 #[.string (st base),.string (st s)] w fun e w'=>e=.returned (.tuple #[.string (st x),.int .i64 c])∧Below w.heap.size w w') →
   Calls Tryz.prog 175 #[.string (st base),.string (st s)] w fun e w'=>e=.returned (.string (st (Mk.light base s)))∧Below w.heap.size w w':=by
  intro x c h0 h1 hc;have HC:=Lib.hid hc;have H0:=Lib.hid h0;have H1:=Lib.hid h1;clear hc h0 h1;go_enter Tryz.func175,Tryz.ntmps175;go_wp2_with fail;refine HC.out.mono ?_;rintro e w1 ⟨rfl,hb⟩
  by_cases h:c=0
  ·have E:=Lib.hid (H0.out h)
   subst h;go_wp2_with fail;go_ret;exact⟨q08 (by rw[E.out]),hb⟩
  ·have E:=Lib.hid (H1.out h)
   have hcb:(c == 0)=false:=beq_eq_false_iff_ne.2 h;go_wp2_with fail;go_ret;exact⟨q08 (by rw[E.out]),hb⟩
 have hl:Mk.light base s=if 3000 < base.length∨3000 < s.length∨Mg.z0n base=0 then s else match Mg.res base s with | none=>s | some t=>t:=rfl
 by_cases h1:3000 < base.length∨3000 < s.length
 ·exact walk [] 2 (fun h=>absurd h (by decide)) (fun _=>by rw[hl,if_pos];rcases h1 with h | h;exact .inl h;exact .inr (.inl h)) (q1d (st base) (st s) w h1)
 have hb:base.length≤3000:=by omega
 have hs:s.length≤3000:=by omega
 by_cases h2:Mg.z0n base=0
 ·exact walk [] 1 (fun h=>absurd h (by decide)) (fun _=>by rw[hl,if_pos (.inr (.inr h2))]) (q1c (st base) (st s) w hb hs h2)
 have hl2:Mk.light base s=match Mg.res base s with | none=>s | some t=>t:=by
  rw[hl,if_neg];rintro (q | q | q)
  ·omega
  ·omega
  ·exact h2 q
 cases hj:Mg.z9c (Mg.resU (Mg.split base) (Mg.split s)) with
 | false =>
  refine walk [] 1 (fun h=>absurd h (by decide)) (fun _=>?_) (q3p (st base) (st s) w hb hs h2 hj);rw[hl2,Mg.res];simp only [hj];rfl
 | true =>
  refine walk (Mg.join (Mg.resU (Mg.split base) (Mg.split s))) 0 (fun _=>?_) (fun h=>absurd rfl h) (z8f (st base) (st s) w hb hs h2 hj);rw[hl2,Mg.res];simp only [hj];rfl

theorem j7s (e:List UInt8) (a:Mk.At) (w:World) :
  Calls Tryz.prog 136 #[.string (st e),atV a] w fun x w'=>x=.returned (.bool (Mk.mayB e a.n))∧Below w.heap.size w w':=by
 have hst:∀ l:List UInt8,(st l).toList=l:=fun l=>Lib.toList_data _
 have hm:Mk.mayB e a.n=if e=[97] then a.n == [104,114,101,102] || a.n == [116,105,116,108,101] else if e=[105,109,103] then a.n == [115,114,99] || a.n == [97,108,116] else false:=rfl
 have hal:=fun o=>(Below.refl w.heap.size w).alloc (Nat.le_refl _) o
 have HAL:=Lib.hid hal;clear hal;unfold atV
 by_cases h1:e=[97]
 ·have HM:Hid (Mk.mayB e a.n=(a.n == [104,114,101,102] || a.n == [116,105,116,108,101])):=by show _=_;rw[hm,if_pos h1]
  have e1:(e == [97])=true:=beq_iff_eq.2 h1;clear hm h1;go_enter Tryz.func136,Tryz.ntmps136;go_wp2_with fail
  all_goals (go_ret;refine⟨Z7 ?_,HAL.out _⟩;first | (rw[HM.out];done) | (rw[HM.out];simp[*];done))
 ·have e1:(e == [97])=false:=beq_eq_false_iff_ne.2 h1
  by_cases h2:e=[105,109,103]
  ·have HM:Hid (Mk.mayB e a.n=(a.n == [115,114,99] || a.n == [97,108,116])):=by show _=_;rw[hm,if_neg h1,if_pos h2]
   have e2:(e == [105,109,103])=true:=beq_iff_eq.2 h2;clear hm h1 h2;go_enter Tryz.func136,Tryz.ntmps136;go_wp2_with fail
   all_goals (go_ret;refine⟨Z7 ?_,HAL.out _⟩;first | (rw[HM.out];done) | (rw[HM.out];simp[*];done))
  ·have HM:Hid (Mk.mayB e a.n=false):=by show _=_;rw[hm,if_neg h1,if_neg h2]
   have e2:(e == [105,109,103])=false:=beq_eq_false_iff_ne.2 h2;clear hm;go_enter Tryz.func136,Tryz.ntmps136;go_wp2_with fail
   all_goals (go_ret;exact⟨Z7 HM.out.symm,HAL.out _⟩)

theorem j5d (n:List UInt8):Lib.containsS ((Mk.z8o.map st).take 14) (st n)=Mk.X3 n:=by
 rw[List.take_of_length_le (by decide)];rw[Bool.eq_iff_iff,Lib.containsS_iff,Mk.X3,List.contains_iff_mem,List.mem_map];constructor
 ·rintro ⟨x,h1,h2⟩
  have:x=n:=by have:=congrArg (fun b:ByteArray=>b.data.toList) h2;exact this
  rw[← this];exact h1
 ·intro h
  exact⟨n,h,rfl⟩
theorem q40 (n:List UInt8) (w:World) :
  Calls Tryz.prog 138 #[.string (st n)] w fun e w'=>e=.returned (.bool (Mk.X3 n))∧Below w.heap.size w w':=by
 go_enter Tryz.func138,Tryz.ntmps138;go_wp2_with fail;have hal:=(Below.refl w.heap.size w).alloc (Nat.le_refl _) (.cells ((Mk.z8o.map fun x=>Value.string (st x)).toArray) 9);have hc:=Tryz.slices_Contains_string w.heap.size 0 14 14 (Mk.z8o.map st) (st n) (w.alloc (.cells ((Mk.z8o.map fun x=>Value.string (st x)).toArray) 9)) (by decide) (by decide) (fun j hj=>by
  have hj':j < 14:=hj;rw[Nat.zero_add,Blk.cell (Blk.new w 9 ((Mk.z8o.map fun x=>Value.string (st x)).toArray)) j]
  rcases (by omega:j=0∨j=1∨j=2∨j=3∨j=4∨j=5∨j=6∨j=7∨j=8∨j=9∨j=10∨j=11∨j=12∨j=13) with h | h | h | h | h | h | h | h | h | h | h | h | h | h <;> subst h <;> rfl)
 rw[j5d] at hc;refine hc.mono ?_;rintro e w1 ⟨rfl,rfl⟩;go_wp2_with fail;go_ret;exact⟨rfl,hal⟩
theorem j7b (P:Nat) (nm:List UInt8) (l:List Mk.At) (w:World) (hP:P < w.heap.size) (hc:w.cell? ⟨P,0,none⟩=some (.string (st nm))):q70 196 #[.pointer (some ⟨P,0,none⟩)] (fun a=>a.n == nm) l w:=by
 intro w1 hb a _;have c0:w1.cell? ⟨P,0,none⟩=some (.string (st nm)):=(hb.cell (p:=⟨P,0,none⟩) hP).trans hc;have hP1:P < w1.heap.size:=Nat.lt_of_lt_of_le hP hb.size;unfold atV;go_enter Tryz.func196,Tryz.ntmps196;go_wp2_with fail;go_ret;exact⟨Z7 (by rw[show (st a.n).toList=a.n from Lib.toList_data _,show (st nm).toList=nm from Lib.toList_data _]),(Below.refl _ w1).alloc (Nat.le_refl _) _⟩
theorem eg_has1 (args:Array Value) (w:World):(callFunc 196 args).run Tryz.prog w=.ok (.enter 196 args) w:=Z4 Tryz.func196 (by kernel_rfl) rfl _ _
theorem cl_has (l:List Mk.At) (nm:List UInt8) (v:Value) (K:Nat→Prop) (w:World) (hv:AtsV w K v l) (hK:∀ b,K b→b < w.heap.size) (hl:l.length≤33554432) :
  Calls Tryz.prog 139 #[v,.string (st nm)] w fun e w'=>e=.returned (.bool (Mk.z0x l nm))∧Below w.heap.size w w':=by
 have hal:=(Below.refl w.heap.size w).alloc (Nat.le_refl _) (.cells #[.string (st nm)] 9);have PB:=Blk.new w 9 #[.string (st nm)];have HCF:=Lib.hid (z1c 196 #[.pointer (some ⟨w.heap.size,0,none⟩)] (fun a=>a.n == nm) eg_has1 l v K (w.alloc (.cells #[.string (st nm)] 9)) (hv.below hK hal) (fun b hb=>Nat.lt_of_lt_of_le (hK b hb) hal.size) hl (j7b w.heap.size nm l _ PB.lt (PB.cell 0)));have AL:=Lib.hid hal;clear hal PB hK hv;go_enter Tryz.func139,Tryz.ntmps139;go_wp2_with fail;refine HCF.out.mono ?_;rintro e w1 ⟨rfl,hb⟩;have L:=Lib.hid (AL.out.trans (hb.mono AL.out.size));clear hb HCF;go_wp2_with fail;go_ret;exact⟨rfl,L.out⟩
theorem join_len_le (u:Mg.U):(Mg.join u).length≤u.sch.length + u.au.length + u.pa.length + u.qu.length + u.fr.length + 5:=by
 unfold Mg.join;simp only [List.length_append];have h1:∀ (b:Bool) (x:List UInt8),(if b then x else []).length≤x.length:=by intro b x;cases b <;> simp
 have a1:=h1 u.hs (u.sch++[58]);have a2:=h1 u.ha ([47,47]++u.au);have a3:=h1 u.hq ([63]++u.qu);have a4:=h1 u.hf ([35]++u.fr);simp only [List.length_append,List.length_cons,List.length_nil] at a1 a2 a3 a4 ⊢;omega
theorem q7v (base s:List UInt8):(Mk.light base s).length≤s.length + 50000:=by
 unfold Mk.light
 split
 ·omega
 ·rename_i h
  cases hr:Mg.res base s with
  | none=>simp only;omega
  | some t =>
   simp only;unfold Mg.res at hr;simp only at hr
   split at hr
   ·injection hr with hr
    rw[← hr,← rU_res];obtain⟨b1,b2,b3,b4,b5⟩:=z7r base;obtain⟨s1,s2,s3,s4,s5⟩:=z7r s;obtain⟨r1,r2,r3,r4⟩:=rU2_le (Mg.split base) (Mg.split s);have r5:=j2g (Mg.split base) (Mg.split s);have r6:=Mg.q5i (z4c (Mg.split base) (Mg.split s));refine Nat.le_trans (join_len_le _) ?_;simp only;omega
   ·cases hr
theorem q5e (base e:List UInt8) (l:List Mk.At) (k:Nat) (h:k < l.length):Mk.Z5 base e (l.take (k + 1))=Mk.Z5 base e (l.take k)++Mk.V9 base e l[k]:=by
 unfold Mk.Z5;rw[List.take_succ_eq_append_getElem h,List.flatMap_append];simp
theorem j4b (base e:List UInt8) (a:Mk.At):(Mk.V9 base e a).length≤1:=by
 unfold Mk.V9
 split
 ·simp
 split
 ·split <;> simp
 ·simp
theorem q28 (base e:List UInt8) (l:List Mk.At):(Mk.Z5 base e l).length≤l.length:=by
 induction l with
 | nil=>exact Nat.le_refl _
 | cons a t ih =>
  have:=j4b base e a;show (Mk.V9 base e a++Mk.Z5 base e t).length≤t.length + 1;rw[List.length_append];omega
theorem cl_attrs (base n t:List UInt8) (a:List Mk.At) (va vk:Value) (kl:Nat) (ck:Nat) (aok:Option Addr) (hvk:vk=.slice aok kl ck) (C:Nat) (K:Nat→Prop) (w:World) (hC:C < w.heap.size) (hCc:w.cell? ⟨C,0,none⟩=some (.string (st base))) (hva:AtsV w K va a) (hK:∀ b,K b→b < w.heap.size) (hl:Mk.Fo.atB a≤33554432) :
  Calls Tryz.prog 250 #[.pointer (some ⟨C,0,none⟩),V4 n va t vk] w fun e w'=>∃ v,e=.returned v∧w'.ownsRow w.heap.size 56 2 v (Mk.Z5 base n a).length (J3 (Mk.Z5 base n a))∧Below w.heap.size w w':=by
 subst hvk;have hll:=Mk.z1u a;obtain⟨b,o,cap,hKb,hv1,hcl⟩:=hva.at_
 have HC:=Lib.hid hcl;clear hcl;have hst:∀ l:List UInt8,(st l).toList=l:=fun l=>Lib.toList_data _
 rcases hv1 with hv1 | ⟨aoz,hv1,hl0⟩
 ·subst hv1
  unfold V4;have hal0:=(Below.refl w.heap.size w).alloc (Nat.le_refl _) (.cells #[.string (st n),.slice (some ⟨b,o,none⟩) a.length cap,.string (st t),.slice aok kl ck] 53);have BL0:=Lib.hid hal0;have NB:=Lib.hid (Blk.new w 53 #[.string (st n),.slice (some ⟨b,o,none⟩) a.length cap,.string (st t),.slice aok kl ck]);clear hal0;go_enter Tryz.func250,Tryz.ntmps250;go_wp2_with fail;generalize hw0:w.alloc (.cells #[.string (st n),.slice (some ⟨b,o,none⟩) a.length cap,.string (st t),.slice aok kl ck] 53)=w0 at BL0 NB ⊢;clear hw0
  go_loopw [5,11] (fun v i wr=>∃ k:Nat,k≤a.length∧i=.int .i64 k∧Hid (wr.ownsRow w0.heap.size 56 2 v (Mk.Z5 base n (a.take k)).length (J3 (Mk.Z5 base n (a.take k))))∧Hid (Below w0.heap.size w0 wr)) (fun _ i _=>a.length - (intOf i).toNat)
  case atStart=>exact⟨0,Nat.zero_le _,rfl,World.ownsRow_nil _ _ _ _,Below.refl _ _⟩
  case round =>
   obtain⟨k,hk,rfl,OW,BL⟩:=hrel;have hsz:=BL.out.size;have hlen:=q28 base n (a.take k);rw[List.length_take] at hlen;have hBw:=BL0.out.trans (BL.out.mono BL0.out.size)
   by_cases hlt:k < a.length
   ·have hb:b < w.heap.size:=hK b (hKb (by intro e;subst e;simp at hlt))
    obtain⟨c0,c1⟩:=HC.out k hlt;rw[← hBw.cell (p:=⟨b,_,none⟩) hb] at c0 c1;have hmem:=Mk.z9s (List.getElem_mem hlt);have HT:=Lib.hid (q5e base n a k hlt);generalize a[k]=x at c0 c1 HT hmem;have hNB:w.heap.size < w0.heap.size:=Blk.lt NB.out;have hal:=(Below.refl wr.heap.size wr).alloc (Nat.le_refl _) (.cells #[.string (st x.n),.string (st x.v)] 56);have PB1:=Lib.hid (Blk.new wr 56 #[.string (st x.n),.string (st x.v)]);have BL1:=Lib.hid (BL.out.trans (hal.mono hsz));have OW1:=Lib.hid (z04 OW.out (Ap.of_below (S:=fun _=>False) hal) (fun _ _ q=>q));have p0:(wr.alloc (.cells #[.string (st x.n),.string (st x.v)] 56)).cell? ⟨w.heap.size,0,none⟩=some (.string (st n)):=(BL1.out.cell (p:=⟨w.heap.size,0,none⟩) hNB).trans (Blk.cell NB.out 0);have HAT:=Lib.hid (j7s n x (wr.alloc (.cells #[.string (st x.n),.string (st x.v)] 56)));unfold atV at HAT;obtain⟨bm,hbm⟩:∃ bm,Mk.mayB n x.n=bm:=⟨_,rfl⟩;rw[hbm] at HAT;have hca:Mk.V9 base n x=if !bm then [] else if Mk.z6b x.n then (if Mk.V3 (Mk.light base x.v) then [⟨x.n,Mk.light base x.v⟩] else []) else [x]:=by rw[← hbm];rfl
    have HPO:=Lib.hid (show u5.ownBlock ≠ some wr.heap.size from fun e=>by have:=(OW.out.lt _ e).2;omega);clear hal hbm HC OW BL hBw
    cases bm with
    | false =>
     have HT2:Hid (Mk.Z5 base n (a.take (k + 1))=Mk.Z5 base n (a.take k)):=by show _=_;rw[HT.out,hca];simp
     clear HT hca;go_wp2_with fail;refine HAT.out.mono ?_;rintro e w2 ⟨rfl,hb2⟩;have BL2:=Lib.hid (BL1.out.trans (hb2.mono BL1.out.size));have OW2:Hid (w2.ownsRow w0.heap.size 56 2 u5 (Mk.Z5 base n (a.take (k + 1))).length (J3 (Mk.Z5 base n (a.take (k + 1))))):=by
      show World.ownsRow _ _ _ _ _ _ _;rw[HT2.out];exact z04 OW1.out (Ap.of_below (S:=fun _=>False) hb2) (fun _ _ q=>q)
     clear hb2 HAT;go_wp2_with fail;go_roundw
     case rel=>exact⟨k + 1,by omega,by go_num,OW2,BL2⟩
     case measure=>simp[intOf];omega
    | true =>
     have hca:Mk.V9 base n x=if Mk.z6b x.n then (if Mk.V3 (Mk.light base x.v) then [⟨x.n,Mk.light base x.v⟩] else []) else [x]:=by rw[hca];simp
     go_wp2_with fail;refine HAT.out.mono ?_;rintro e w2 ⟨rfl,hb2⟩;have BL2:=Lib.hid (BL1.out.trans (hb2.mono BL1.out.size));have OW2:=Lib.hid (z04 OW1.out (Ap.of_below (S:=fun _=>False) hb2) (fun _ _ q=>q));have PB2:=Lib.hid (Blk.below PB1.out hb2 (Blk.lt PB1.out));clear hb2 HAT BL1 OW1 PB1 p0;have q0:w2.cell? ⟨wr.heap.size,0,none⟩=some (.string (st x.n)):=Blk.cell PB2.out 0;have hlk:=fun W=>j7t x.n W
     obtain⟨bk,hbk⟩:∃ bk,Mk.z6b x.n=bk:=⟨_,rfl⟩;rw[hbk] at hlk hca;have HLK:=Lib.hid hlk;clear hlk hbk
     cases bk with
     | false =>
      have HT2:Hid (Mk.Z5 base n (a.take (k + 1))=Mk.Z5 base n (a.take k)++[⟨x.n,x.v⟩]):=by show _=_;rw[HT.out,hca];rfl
      clear HT hca;go_wp2_with fail;refine(HLK.out _).mono ?_;rintro e w3 ⟨rfl,hw3⟩;subst hw3;clear q0 HLK;have cw30:w3.cell? ⟨wr.heap.size,0,none⟩=some (.string (st x.n)):=Blk.cell PB2.out 0;have cw31:w3.cell? ⟨wr.heap.size,1,none⟩=some (.string (st x.v)):=Blk.cell PB2.out 1;obtain⟨i0,hi,hz0,hz1,hz2⟩:=info_parts Tryz.infoAttr;have ow10:=z04 OW2.out ((Ap.refl (fun _=>False) w3).alloc (.cells #[.string (st x.n),.string (st x.v)] 56)) (fun _ _ q=>q);have hsz9:=BL2.out.size;go_wp2_with (at_builtin;refine wpList_append_own _ rfl _ _ 50 rfl w0.heap.size 56 i0 (.agg #[.string ⟨#[]⟩,.string ⟨#[]⟩]) 2 32 Tryz.underlying50 hi hz0 hz1 hz2 rfl (by decide) _ _ _ rfl ow10 ⟨w3.heap.size,0,none⟩ 1 1 [.string (st x.n),.string (st x.v)] rfl rfl (z07 _ _ _) (by intro u hu;simp at hu;rcases hu with rfl | rfl <;> rfl) (by unfold maxLen;omega) (by omega) (by simp;omega) ?_);intro v' w11 hown' hgrow _;have OWN:Hid (w11.ownsRow w0.heap.size 56 2 v' (Mk.Z5 base n (a.take (k + 1))).length (J3 (Mk.Z5 base n (a.take (k + 1))))):=by
       show World.ownsRow _ _ _ _ _ _ _;rw[HT2.out,List.length_append,show J3 (Mk.Z5 base n (a.take k)++[(⟨x.n,x.v⟩:Mk.At)])=J3 (Mk.Z5 base n (a.take k))++[.string (st x.n),.string (st x.v)] by simp[J3]];exact hown'
      have BLN:=Lib.hid ((BL2.out.alloc hsz9 (.cells #[.string (st x.n),.string (st x.v)] 56)).grown hgrow (by simp;omega) (fun k hk=>(OW2.out.lt k hk).1));clear hown' hgrow ow10;go_wp2_with fail;go_roundw
      case rel=>exact⟨k + 1,by omega,by go_num,OWN,BLN⟩
      case measure=>simp[intOf];omega
     | true =>
      have hca:Mk.V9 base n x=if Mk.V3 (Mk.light base x.v) then [⟨x.n,Mk.light base x.v⟩] else []:=by rw[hca];simp
      have hll2:=q7v base x.v;go_wp2_with fail;refine(HLK.out _).mono ?_;rintro e w3 ⟨rfl,hw3⟩;subst hw3;have q1:w3.cell? ⟨wr.heap.size,1,none⟩=some (.string (st x.v)):=Blk.cell PB2.out 1;have cb:w3.cell? ⟨C,0,none⟩=some (.string (st base)):=((BL0.out.trans (BL2.out.mono BL0.out.size)).cell (p:=⟨C,0,none⟩) hC).trans hCc;have HL:=Lib.hid (fun W=>q8z base x.v W);generalize Mk.light base x.v=lv at hca hll2 HL;have hP3:wr.heap.size < w3.heap.size:=Blk.lt PB2.out;clear q0 HLK;go_upto_region 7 with fail
      go_region_with (go_at_call 175;refine(HL.out _).mono ?_;rintro e w7 ⟨rfl,hb7⟩;have PB7:=Lib.hid (Blk.below (Blk.drew PB2.out) hb7 hP3);have d1:w7.cell? ⟨wr.heap.size,1,none⟩=some (.string (st x.v)):=Blk.cell PB7.out 1;have g1:w7.frozen? ⟨wr.heap.size,1,none⟩=false:=Blk.frozen PB7.out 1)
      all_goals
       have OW8:=Lib.hid (ownsRow_setCell_other (z04 OW2.out (((Ap.refl (fun _=>False) w3).drew).trans (Ap.of_below hb7)) (fun _ _ q=>q)) (a:=⟨wr.heap.size,1,none⟩) HPO.out (.string (st lv)));have PB8:Hid (Blk (w7.setCell ⟨wr.heap.size,1,none⟩ (.string (st lv))) wr.heap.size 56 #[.string (st x.n),.string (st lv)]):=Blk.set_ PB7.out 1 (.string (st lv));have BL8:=Lib.hid ((BL2.out.drew.trans (hb7.mono BL2.out.size)).setCell (p:=⟨wr.heap.size,1,none⟩) hsz (.string (st lv)));generalize w7.setCell ⟨wr.heap.size,1,none⟩ (.string (st lv))=w8 at OW8 PB8 BL8 ⊢;clear HL hb7 PB7 d1 g1 OW2 PB2 BL2 q1 cb;have c81:w8.cell? ⟨wr.heap.size,1,none⟩=some (.string (st lv)):=Blk.cell PB8.out 1;have his:=q8x (st lv) w8 (by rw[y9];omega);rw[z0y] at his;have hgl:Mk.V3 lv=(Mg.isSafe lv && decide (lv.length≤3000)):=rfl;generalize Mg.isSafe lv=bs at his hgl;have HIS:=Lib.hid his;clear his
       cases bs with
       | false =>
        have HT2:Hid (Mk.Z5 base n (a.take (k + 1))=Mk.Z5 base n (a.take k)):=by show _=_;rw[HT.out,hca,hgl];simp
        clear HT hca hgl;go_wp2_with fail;refine HIS.out.mono ?_;rintro e w9 ⟨rfl,hb9⟩;have BL9:=Lib.hid (BL8.out.trans (hb9.mono BL8.out.size));have OW9:Hid (w9.ownsRow w0.heap.size 56 2 u5 (Mk.Z5 base n (a.take (k + 1))).length (J3 (Mk.Z5 base n (a.take (k + 1))))):=by
         show World.ownsRow _ _ _ _ _ _ _;rw[HT2.out];exact z04 OW8.out (Ap.of_below (S:=fun _=>False) hb9) (fun _ _ q=>q)
        clear hb9 HIS;go_wp2_with fail;go_roundw
        case rel=>exact⟨k + 1,by omega,by go_num,OW9,BL9⟩
        case measure=>simp[intOf];omega
       | true =>
        by_cases h3:lv.length≤3000
        ·have HT2:Hid (Mk.Z5 base n (a.take (k + 1))=Mk.Z5 base n (a.take k)++[⟨x.n,lv⟩]):=by show _=_;rw[HT.out,hca,hgl,decide_eq_true h3];simp
         have hsz3:¬ 3000 < (st lv).size:=by rw[y9];omega
         clear HT hca hgl;go_wp2_with fail;refine HIS.out.mono ?_;rintro e w9 ⟨rfl,hb9⟩;have BL9:=Lib.hid (BL8.out.trans (hb9.mono BL8.out.size));have OW9:=Lib.hid (z04 OW8.out (Ap.of_below (S:=fun _=>False) hb9) (fun _ _ q=>q));have PB9:=Lib.hid (Blk.below PB8.out hb9 (Blk.lt PB8.out));have d91:w9.cell? ⟨wr.heap.size,1,none⟩=some (.string (st lv)):=Blk.cell PB9.out 1;clear hb9 HIS c81;have cw90:w9.cell? ⟨wr.heap.size,0,none⟩=some (.string (st x.n)):=Blk.cell PB9.out 0;have cw91:w9.cell? ⟨wr.heap.size,1,none⟩=some (.string (st lv)):=Blk.cell PB9.out 1;obtain⟨i0,hi,hz0,hz1,hz2⟩:=info_parts Tryz.infoAttr;have ow10:=z04 OW9.out ((Ap.refl (fun _=>False) w9).alloc (.cells #[.string (st x.n),.string (st lv)] 56)) (fun _ _ q=>q);have hsz9:=BL9.out.size;go_wp2_with (at_builtin;refine wpList_append_own _ rfl _ _ 50 rfl w0.heap.size 56 i0 (.agg #[.string ⟨#[]⟩,.string ⟨#[]⟩]) 2 32 Tryz.underlying50 hi hz0 hz1 hz2 rfl (by decide) _ _ _ rfl ow10 ⟨w9.heap.size,0,none⟩ 1 1 [.string (st x.n),.string (st lv)] rfl rfl (z07 _ _ _) (by intro u hu;simp at hu;rcases hu with rfl | rfl <;> rfl) (by unfold maxLen;omega) (by omega) (by simp;omega) ?_);intro v' w11 hown' hgrow _;have OWN:Hid (w11.ownsRow w0.heap.size 56 2 v' (Mk.Z5 base n (a.take (k + 1))).length (J3 (Mk.Z5 base n (a.take (k + 1))))):=by
          show World.ownsRow _ _ _ _ _ _ _;rw[HT2.out,List.length_append,show J3 (Mk.Z5 base n (a.take k)++[(⟨x.n,lv⟩:Mk.At)])=J3 (Mk.Z5 base n (a.take k))++[.string (st x.n),.string (st lv)] by simp[J3]];exact hown'
         have BLN:=Lib.hid ((BL9.out.alloc hsz9 (.cells #[.string (st x.n),.string (st lv)] 56)).grown hgrow (by simp;omega) (fun k hk=>(OW9.out.lt k hk).1));clear hown' hgrow ow10;go_wp2_with fail;go_roundw
         case rel=>exact⟨k + 1,by omega,by go_num,OWN,BLN⟩
         case measure=>simp[intOf];omega
        ·have HT2:Hid (Mk.Z5 base n (a.take (k + 1))=Mk.Z5 base n (a.take k)):=by show _=_;rw[HT.out,hca,hgl,decide_eq_false h3];simp
         have hsz3:3000 < (st lv).size:=by rw[y9];omega
         clear HT hca hgl;go_wp2_with fail;refine HIS.out.mono ?_;rintro e w9 ⟨rfl,hb9⟩;have BL9:=Lib.hid (BL8.out.trans (hb9.mono BL8.out.size));have OW9:Hid (w9.ownsRow w0.heap.size 56 2 u5 (Mk.Z5 base n (a.take (k + 1))).length (J3 (Mk.Z5 base n (a.take (k + 1))))):=by
          show World.ownsRow _ _ _ _ _ _ _;rw[HT2.out];exact z04 OW8.out (Ap.of_below (S:=fun _=>False) hb9) (fun _ _ q=>q)
         have d91:w9.cell? ⟨wr.heap.size,1,none⟩=some (.string (st lv)):=Blk.cell (Blk.below PB8.out hb9 (Blk.lt PB8.out)) 1;clear hb9 HIS c81;go_wp2_with fail;go_roundw
         case rel=>exact⟨k + 1,by omega,by go_num,OW9,BL9⟩
         case measure=>simp[intOf];omega
   ·have hke:k=a.length:=by omega
    have OWN:Hid (wr.ownsRow w0.heap.size 56 2 u5 (Mk.Z5 base n a).length (J3 (Mk.Z5 base n a))):=by
     have:=OW.out;rw[hke,List.take_length] at this;exact this
    have BLF:=Lib.hid hBw;clear OW HC;go_wp2_with fail;go_ret;exact⟨_,rfl,⟨OWN.out.1,OWN.out.2.imp id (fun ⟨g,c,r,h1,h2,h3⟩=>⟨g,c,r,h1,Nat.le_trans BL0.out.size h2,h3⟩)⟩,BLF.out⟩
 ·subst hl0
  subst hv1;unfold V4;have hal0:=(Below.refl w.heap.size w).alloc (Nat.le_refl _) (.cells #[.string (st n),.slice aoz 0 cap,.string (st t),.slice aok kl ck] 53);clear HC hK;go_enter Tryz.func250,Tryz.ntmps250;go_wp2_with fail;generalize w.alloc (.cells #[.string (st n),.slice aoz 0 cap,.string (st t),.slice aok kl ck] 53)=w0 at hal0 ⊢
  go_loopw [5,11] (fun v i wr=>v=.slice none 0 0∧i=.int .i64 0∧wr=w0) (fun _ _ _=>0)
  case atStart=>exact⟨rfl,rfl,rfl⟩
  case round =>
   obtain⟨rfl,rfl,rfl⟩:=hrel;go_wp2_with fail;go_ret;exact⟨_,rfl,World.ownsRow_nil _ _ _ _,hal0⟩
end Go.Proofs.YtjonkbdldebkiaaGreatDoor
