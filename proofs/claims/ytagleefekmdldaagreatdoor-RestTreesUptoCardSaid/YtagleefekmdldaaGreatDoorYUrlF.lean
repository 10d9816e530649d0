/- Contracts of the path without dots: the program's j4e, and Without. Condition: a path of at most 67108864 bytes. -/
import Derived.Test.YtagleefekmdldaaGreatDoorYMkTok5
import Derived.Deep.RegionLaw
import Derived.Deep.RegionHeld3
import Derived.Deep.LoopGhost
import Derived.Lib.ConvBytes
import Derived.Deep.CutBlock
set_option linter.unusedVariables false
set_option linter.unusedSimpArgs false
set_option maxHeartbeats 2000000
set_option maxRecDepth 100000
namespace Go.Proofs.YtagleefekmdldaaGreatDoor
open Go.Proofs.Tryz Go.RowKit

theorem z2e (b:Nat) (i:List UInt8) (p:ByteArray) (pl:List UInt8) (hp:p.data.toList=pl) (w:World) (hc:w.cell? ⟨b,0,none⟩=some (.string (st i))) :
  Calls prog 228 #[.pointer (some ⟨b,0,none⟩),.string p,.bool false] w fun e w'=>e=.returned (.bool (Mg.pre pl i))∧w=w':=by
 subst hp;go_enter func228,ntmps228;go_wp2_with (go_at_call 130;refine(Tryz.strings_HasPrefix _ _ _).mono ?_;rintro e w' ⟨rfl,hw⟩;rw[hw]);go_ret;exact⟨Z8 (pre_eq _ _),rfl⟩
theorem z2d (b:Nat) (i:List UInt8) (p:ByteArray) (pl:List UInt8) (hp:p.data.toList=pl) (w:World) (hc:w.cell? ⟨b,0,none⟩=some (.string (st i))) :
  Calls prog 228 #[.pointer (some ⟨b,0,none⟩),.string p,.bool true] w fun e w'=>e=.returned (.bool (i == pl))∧w=w':=by
 subst hp;have hst:∀ s:ByteArray,s.toList=s.data.toList:=fun s=>Lib.toList_data s
 go_enter func228,ntmps228;go_wp2;go_ret;refine⟨Z8 ?_,rfl⟩;rw[Bool.eq_iff_iff,beq_iff_eq,beq_iff_eq];constructor
 ·intro h;rw[← h];rfl
 ·intro h;rw[h];rfl

def sv (l:List (List UInt8)):List Value:=l.map fun s=>Value.string (st s)
structure DSt (b:Nat) (w wk:World) (i:List UInt8) (o:List (List UInt8)) (v:Value):Prop where
 below:Below b w wk
 blk:Blk wk b 249 #[.string (st i),v]
 own:wk.ownsRow (b + 1) 9 1 v o.length (sv o)

theorem sv_len (l:List (List UInt8)):(sv l).length=l.length:=by simp[sv]
theorem DSt.pop {b:Nat} {w wk:World} {i:List UInt8} {o:List (List UInt8)} {g cap:Nat} (h:DSt b w wk i o (.slice (some ⟨g,0,none⟩) o.length cap)) (hpos:0 < o.length) :
  DSt b w (wk.setCell ⟨b,1,none⟩ (.slice (some ⟨g,0,none⟩) (o.length - 1) cap)) i o.dropLast (.slice (some ⟨g,0,none⟩) (o.length - 1) cap):=by
 refine⟨h.below.setCell (Lr) _,h.blk.set_ 1 _,?_⟩;rw[List.length_dropLast];refine ownsRow_setCell_below ?_ (by show b < b + 1;omega) _;obtain⟨n,hn⟩:∃ n,o.length=n + 1:=⟨o.length - 1,by omega⟩;have hne:o ≠ []:=by rintro rfl;cases hpos
 have hs:sv o=sv o.dropLast++[Value.string (st (o.getLast hne))]:=by
  conv=>lhs;rw[← List.dropLast_concat_getLast hne]
  simp[sv]
 have ho:=h.own;rw[hs,hn] at ho;rw[hn];exact ownsRow_pop (by rw[sv_len,List.length_dropLast];omega) ho

theorem z9c (b:Nat) (w wk:World) (i:List UInt8) (o:List (List UInt8)) (v:Value) (h:DSt b w wk i o v) (hl:o.length≤67108864) :
  Calls prog 229 #[.pointer (some ⟨b,0,none⟩)] wk fun e w'=>e=.returned (.tuple #[])∧∃ v',DSt b w w' i o.dropLast v':=by
 have c0:wk.cell? ⟨b,1,none⟩=some v:=h.blk.cell 1;have f0:wk.frozen? ⟨b,1,none⟩=false:=h.blk.frozen 1
 rcases h.own.2 with ⟨rfl,h0⟩ | ⟨g,cap,cur,rfl,_,_,hnc,hcm,_⟩
 ·have ho:o=[]:=List.eq_nil_of_length_eq_zero h0
  subst ho;go_enter func229,ntmps229;go_wp2;go_end0;exact⟨rfl,_,h⟩
 ·by_cases hpos:0 < o.length
  ·go_enter func229,ntmps229
   go_wp2;go_end0;exact⟨rfl,_,h.pop hpos⟩
  ·have ho:o=[]:=List.eq_nil_of_length_eq_zero (by omega)
   subst ho;go_enter func229,ntmps229;go_wp2;go_end0;exact⟨rfl,_,h⟩

theorem z8d {P:Program} {w:World} {ops:Array Oper} {o:Oper} {a:Act} {K:Act→World→Prop} {Q:Exit→Act→World→Prop} {E:Prop} (hgd:o.guard=none) (s x:Operand) (t:TypeId)
  (ho:o.op=.call { callee:=.builtin .append,args:=#[s,x],argTypes:=#[t,t] })
  (base:Nat) (e:TypeId) (i:TypeInfo) (z:Value) (size bytes:Nat) (ht:P.underlying t=some (.slice e)) (hi:P.info? e=some i) (hz:i.zero=some z)
  (hsize:i.size=size) (hby:i.bytes=bytes) (hzs:z.cells.size=size) (hsz:0 < size)
  (v:Value) (n:Nat) (xs:List Value) (hs:a.eval s=v) (hown:w.ownsRow base e size v n xs)
  (ad:Addr) (m c:Nat) (news:List Value) (hx:a.eval x=.slice (some ad) m c) (hl:news.length=m * size) (hnews:∀ j u,news[j]? = some u→w.cell? (ad.add j)=some u) (h1:∀ u ∈ news,u.oneCell'=true)
  (h63:n + m≤maxLen) (hbytes:(n + m) * bytes≤140737488355328) (hbase:base≤w.heap.size)
  (h:∀ v' w',w'.ownsRow base e size v' (n + m) (xs++news)→w.grownBy w' v.ownBlock→(v'=.slice none 0 0↔v=.slice none 0 0∧m=0)→K (a.put o.dst v') w') :
  if Region.wanted o (yielded ops a.tmps)=true then Oper.wp P o a w K Q else E:=by
 have hw:Region.wanted o (yielded ops a.tmps)=true:=by simp[Region.wanted,hgd]
 rw[if_pos hw];exact wp_append_own w s x t ho base e i z size bytes ht hi hz hsize hby hzs hsz v n xs hs hown ad m c news hx hl hnews h1 h63 hbytes hbase h

theorem Tryz.infoS:(prog.info? 9).map (fun i=>(i.zero,i.size,i.bytes))=some (some (.string ⟨#[]⟩),1,16):=by kernel_rfl
def Stepped (b:Nat) (w:World) (i:List UInt8) (o:List (List UInt8)) (e:Ending) (w':World):Prop :=
 e=.returned (.tuple #[])∧∃ v',DSt b w w' (Mg.V8 i).2.1 (Mg.z7q i o) v'

theorem z0t {p l:List UInt8} (h:Mg.pre p l=true):(p.length:Int)≤(st l).size:=by
 have h1:l.take p.length=p:=by simpa [Mg.pre] using h
 have:=congrArg List.length h1;rw[List.length_take] at this;simp only [y9];omega
theorem q4l {p l:List UInt8} {n:Nat} (hn:p.length=n) (h:Mg.pre p l=true):l.take n=p:=by subst hn;simpa [Mg.pre] using h
theorem z1f {p l:List UInt8} {n:Nat} (hn:p.length=n) (h:Mg.pre p l=false):¬ l.take n=p:=by subst hn;simpa [Mg.pre] using h
section
variable {i : List UInt8} (t1 : Mg.pre [46,46,47] i = false) (t2 : Mg.pre [46,47] i = false) (t3 : Mg.pre [47,46,47] i = false) (t4 : (i == [47,46]) = false) (t5 : Mg.pre [47,46,46,47] i = false) (t6 : (i == [47,46,46]) = false)
theorem dm_1 (t:Mg.pre [46,46,47] i=true):Mg.V8 i=(false,i.drop 3,[]):=by
 unfold Mg.V8;rw[if_pos (q4l (n:=3) rfl t)]
include t1 in
theorem dm_2 (t:Mg.pre [46,47] i=true):Mg.V8 i=(false,i.drop 2,[]):=by
 unfold Mg.V8;rw[if_neg (z1f (n:=3) rfl t1),if_pos (q4l (n:=2) rfl t)]
include t1 t2 in
theorem dm_3 (t:Mg.pre [47,46,47] i=true):Mg.V8 i=(false,i.drop 2,[]):=by
 unfold Mg.V8;rw[if_neg (z1f (n:=3) rfl t1),if_neg (z1f (n:=2) rfl t2),if_pos (q4l (n:=3) rfl t)]
include t1 t2 t3 in
theorem dm_4 (t:(i == [47,46])=true):Mg.V8 i=(false,[47],[]):=by
 unfold Mg.V8;rw[if_neg (z1f (n:=3) rfl t1),if_neg (z1f (n:=2) rfl t2),if_neg (z1f (n:=3) rfl t3),if_pos (beq_iff_eq.1 t)]
include t1 t2 t3 t4 in
theorem dm_5 (t:Mg.pre [47,46,46,47] i=true):Mg.V8 i=(true,i.drop 3,[]):=by
 unfold Mg.V8;rw[if_neg (z1f (n:=3) rfl t1),if_neg (z1f (n:=2) rfl t2),if_neg (z1f (n:=3) rfl t3),if_neg (beq_eq_false_iff_ne.1 t4),if_pos (q4l (n:=4) rfl t)]
include t1 t2 t3 t4 t5 in
theorem dm_6 (t:(i == [47,46,46])=true):Mg.V8 i=(true,[47],[]):=by
 unfold Mg.V8;rw[if_neg (z1f (n:=3) rfl t1),if_neg (z1f (n:=2) rfl t2),if_neg (z1f (n:=3) rfl t3),if_neg (beq_eq_false_iff_ne.1 t4),if_neg (z1f (n:=4) rfl t5),if_pos (beq_iff_eq.1 t)]
include t1 t2 t3 t4 t5 t6 in
theorem dm_7 (t:(i == [46])=true∨(i == [46,46])=true):Mg.V8 i=(false,[],[]):=by
 unfold Mg.V8;rw[if_neg (z1f (n:=3) rfl t1),if_neg (z1f (n:=2) rfl t2),if_neg (z1f (n:=3) rfl t3),if_neg (beq_eq_false_iff_ne.1 t4),if_neg (z1f (n:=4) rfl t5),if_neg (beq_eq_false_iff_ne.1 t6),if_pos (t.imp beq_iff_eq.1 beq_iff_eq.1)]
include t1 t2 t3 t4 t5 t6 in
theorem dm_8 (t7:(i == [46])=false) (t8:(i == [46,46])=false):Mg.V8 i=(false,i.tail.dropWhile (· != 47),i.take 1++i.tail.takeWhile (· != 47)):=by
 unfold Mg.V8;rw[if_neg (z1f (n:=3) rfl t1),if_neg (z1f (n:=2) rfl t2),if_neg (z1f (n:=3) rfl t3),if_neg (beq_eq_false_iff_ne.1 t4),if_neg (z1f (n:=4) rfl t5),if_neg (beq_eq_false_iff_ne.1 t6),if_neg (by rintro (h | h);exact beq_eq_false_iff_ne.1 t7 h;exact beq_eq_false_iff_ne.1 t8 h)]
end
theorem z6d {i r:List UInt8} {o:List (List UInt8)} (h:Mg.V8 i=(false,r,[])):Mg.z7q i o=o:=by simp[Mg.z7q,h]
theorem q2u {i r:List UInt8} {o:List (List UInt8)} (h:Mg.V8 i=(true,r,[])):Mg.z7q i o=o.dropLast:=by simp[Mg.z7q,h]
theorem DSt.left {b:Nat} {w wk:World} {i:List UInt8} {o:List (List UInt8)} {v:Value} (h:DSt b w wk i o v) (i':List UInt8):DSt b w (wk.setCell ⟨b,0,none⟩ (.string (st i'))) i' o v :=
 ⟨h.below.setCell (Lr) _,h.blk.set_ 0 _,ownsRow_setCell_below h.own (by show b < b + 1;omega) _⟩

theorem DSt.grow {b:Nat} {w wk w':World} {i:List UInt8} {o:List (List UInt8)} {v:Value} {O:Obj} (h:DSt b w wk i o v) (hg:(wk.alloc O).drew.grownBy w' v.ownBlock):Blk w' b 249 #[.string (st i),v]∧Below b w w':=by
 have hlt:=h.own.lt;have e1:(wk.alloc O).drew.heap.size=wk.heap.size + 1:=by simp
 have hl:=h.blk.lt;refine⟨?_,?_⟩
 ·refine((h.blk.alloc O).drew).grown hg ?_
  intro e;have:=(hlt b e.symm).1;omega
 ·have h1:Below b w (wk.alloc O).drew:=(h.below.alloc (by omega) O).drew
  exact h1.grown hg (by omega) (fun k hk=>by have:=(hlt k hk).1;omega)
theorem own_form {w:World} {base size n:Nat} {e:TypeId} {v:Value} {xs:List Value} (h:w.ownsRow base e size v n xs) (hn:0 < n):∃ g cap,v=.slice (some ⟨g,0,none⟩) n cap:=by
 rcases h.2 with ⟨_,h0⟩ | ⟨g,cap,cur,rfl,_⟩
 ·omega
 ·exact⟨g,cap,rfl⟩
theorem DSt.grown {b n:Nat} {w w':World} {i:List UInt8} {o:List (List UInt8)} {v v':Value} (hb:Blk w' b 249 #[.string (st i),v]) (hl:Below b w w') (ho:w'.ownsRow (b + 1) 9 1 v' (o.length + 1) (sv o++[Value.string ((st i).extract 0 n)])) :
  DSt b w (w'.setCell ⟨b,1,none⟩ v') i (o++[i.take n]) v':=by
 refine⟨hl.setCell (Lr) _,hb.set_ 1 _,ownsRow_setCell_below ?_ (by show b < b + 1;omega) _⟩;rw[z3b] at ho;have e:sv (o++[i.take n])=sv o++[Value.string (st (i.take n))]:=by simp[sv]
 rw[e,List.length_append];exact ho
theorem j1k (l:List UInt8) :
  (Lib.indexByte l 47 = -1∧l.takeWhile (· != 47)=l∧l.dropWhile (· != 47)=[]) ∨
  ∃ k,k < l.length∧Lib.indexByte l 47=(k:Nat)∧l.takeWhile (· != 47)=l.take k∧l.dropWhile (· != 47)=l.drop k:=by
 induction l with
 | nil=>exact .inl ⟨rfl,rfl,rfl⟩
 | cons c t ih =>
  rw[Lib.indexByte]
  by_cases hc:c=47
  ·right
   exact⟨0,by simp,by simp[hc],by simp[hc],by simp[hc]⟩
  ·have hb:(c == 47)=false:=beq_eq_false_iff_ne.2 hc
   rw[hb]
   rcases ih with ⟨h1,h2,h3⟩ | ⟨k,h1,h2,h3,h4⟩
   ·left
    simp only [h1];refine⟨rfl,?_,?_⟩
    ·rw[List.takeWhile_cons,if_pos (by simpa using hc),h2]
    ·rw[List.dropWhile_cons,if_pos (by simpa using hc),h3]
   ·right
    refine⟨k + 1,by simp;omega,?_,?_,?_⟩
    ·rw[h2]
     have:¬ (((k:Nat):Int) == -1)=true:=by rw[beq_iff_eq];omega
     simp[this]
    ·rw[List.takeWhile_cons,if_pos (by simpa using hc),h3];rfl
    ·rw[List.dropWhile_cons,if_pos (by simpa using hc),h4];rfl
theorem j1a (i:List UInt8) (hi:i ≠ []):∃ n,1≤n∧n≤i.length∧i.take 1++i.tail.takeWhile (· != 47)=i.take n∧i.tail.dropWhile (· != 47)=i.drop n∧((Lib.indexByte i.tail 47 = -1∧n=i.length)∨Lib.indexByte i.tail 47=(n:Int) - 1):=by
 obtain⟨c,t,rfl⟩:=List.exists_cons_of_ne_nil hi
 rcases j1k t with ⟨h1,h2,h3⟩ | ⟨k,h1,h2,h3,h4⟩
 ·exact⟨t.length + 1,by omega,by simp,by simp[h2],by simp[h3],.inl ⟨h1,by simp⟩⟩
 ·refine⟨k + 1,by omega,by simp;omega,by simp[h3],by simp[h4],.inr ?_⟩
  simp only [List.tail_cons];omega
theorem j3l (s:ByteArray) (w:World):Calls prog 151 #[.string s,.int .u8 47] w fun e w'=>e=.returned (.int .i64 (Lib.indexByte s.data.toList 47))∧w=w' :=
 (Tryz.strings_IndexByte s 47 w).mono fun e w' ⟨he,hw⟩=>⟨he,hw.symm⟩

theorem q5m (b:Nat) (w wk:World) (i:List UInt8) (o:List (List UInt8)) (v:Value) (h:DSt b w wk i o v) (hi:i ≠ []) (hl:o.length + i.length≤67108864) :
  Calls prog 213 #[.pointer (some ⟨b,0,none⟩)] wk (Stepped b w i o):=by
 obtain⟨i0,hi0,hz0,hz1,hz2⟩:=info_parts Tryz.infoS;have c0:wk.cell? ⟨b,0,none⟩=some (.string (st i)):=h.blk.cell 0;have c1:wk.cell? ⟨b,1,none⟩=some v:=h.blk.cell 1;have f0:wk.frozen? ⟨b,0,none⟩=false:=h.blk.frozen 0;have f1:wk.frozen? ⟨b,1,none⟩=false:=h.blk.frozen 1;go_enter func213,ntmps213;go_wp2_with fail;refine(z2e b i _ [46,46,47] rfl _ c0).mono ?_;rintro e w1 ⟨rfl,rfl⟩
 cases t1:Mg.pre [46,46,47] i with
 | true =>
  have hz:(3:Int)≤(st i).size:=z0t t1;have T:=Ld (dm_1 t1);clear t1;go_wp2_with fail;go_end0;exact⟨rfl,_,by rw[T.out,z6d T.out,z0c];exact h.left _⟩
 | false =>
 go_wp2_with fail;refine(z2e b i _ [46,47] rfl _ c0).mono ?_;rintro e w1 ⟨rfl,rfl⟩
 cases t2:Mg.pre [46,47] i with
 | true =>
  have hz:(2:Int)≤(st i).size:=z0t t2;have T:=Ld (dm_2 t1 t2);clear t1 t2;go_wp2_with fail;go_end0;exact⟨rfl,_,by rw[T.out,z6d T.out,z0c];exact h.left _⟩
 | false =>
 go_wp2_with fail;refine(z2e b i _ [47,46,47] rfl _ c0).mono ?_;rintro e w1 ⟨rfl,rfl⟩
 cases t3:Mg.pre [47,46,47] i with
 | true =>
  have hz:(2:Int)≤(st i).size:=by have h3:(3:Int)≤(st i).size:=z0t t3;omega
  have T:=Ld (dm_3 t1 t2 t3);clear t1 t2 t3;go_wp2_with fail;go_end0;exact⟨rfl,_,by rw[T.out,z6d T.out,z0c];exact h.left _⟩
 | false =>
 go_wp2_with fail;refine(z2d b i _ [47,46] rfl _ c0).mono ?_;rintro e w1 ⟨rfl,rfl⟩
 cases t4:i == [47,46] with
 | true =>
  have T:=Ld (dm_4 t1 t2 t3 t4);clear t1 t2 t3 t4;go_wp2_with fail;go_end0;exact⟨rfl,_,by rw[T.out,z6d T.out];exact h.left [47]⟩
 | false =>
 go_wp2_with fail;refine(z2e b i _ [47,46,46,47] rfl _ c0).mono ?_;rintro e w1 ⟨rfl,rfl⟩
 cases t5:Mg.pre [47,46,46,47] i with
 | true =>
  have hz:(3:Int)≤(st i).size:=by have h4:(4:Int)≤(st i).size:=z0t t5;omega
  have T:=Ld (dm_5 t1 t2 t3 t4 t5);clear t1 t2 t3 t4 t5;have h2:=h.left (i.drop 3);rw[← z0b i,← z0c] at h2;go_wp2_with fail;refine(z9c b w _ _ o v h2 (by omega)).mono ?_;rintro e w2 ⟨rfl,v2,h3⟩;go_wp2_with fail;go_end0;exact⟨rfl,_,by rw[T.out,q2u T.out];exact h3⟩
 | false =>
 go_wp2_with fail;refine(z2d b i _ [47,46,46] rfl _ c0).mono ?_;rintro e w1 ⟨rfl,rfl⟩
 cases t6:i == [47,46,46] with
 | true =>
  have T:=Ld (dm_6 t1 t2 t3 t4 t5 t6);clear t1 t2 t3 t4 t5 t6;have h2:=h.left [47];go_wp2_with fail;refine(z9c b w _ _ o v h2 (by omega)).mono ?_;rintro e w2 ⟨rfl,v2,h3⟩;go_wp2_with fail;go_end0;exact⟨rfl,_,by rw[T.out,q2u T.out];exact h3⟩
 | false =>
 go_wp2_with fail;refine(z2d b i _ [46] rfl _ c0).mono ?_;rintro e w1 ⟨rfl,rfl⟩
 cases t7:i == [46] with
 | true =>
  have T:=Ld (dm_7 t1 t2 t3 t4 t5 t6 (.inl t7));clear t1 t2 t3 t4 t5 t6 t7;go_wp2_with fail;go_end0;exact⟨rfl,_,by rw[T.out,z6d T.out];exact h.left []⟩
 | false =>
 go_wp2_with fail;refine(z2d b i _ [46,46] rfl _ c0).mono ?_;rintro e w1 ⟨rfl,rfl⟩
 cases t8:i == [46,46] with
 | true =>
  have T:=Ld (dm_7 t1 t2 t3 t4 t5 t6 (.inr t8));clear t1 t2 t3 t4 t5 t6 t7 t8;go_wp2_with fail;go_end0;exact⟨rfl,_,by rw[T.out,z6d T.out];exact h.left []⟩
 | false =>
 have T8:=dm_8 t1 t2 t3 t4 t5 t6 t7 t8;clear t1 t2 t3 t4 t5 t6 t7 t8;have hz:(1:Int)≤(st i).size:=by have:=List.length_pos_iff.2 hi;simp only [y9];omega
 obtain⟨n,n1,n2,n3,n4,n5⟩:=j1a i hi;rw[n3,n4] at T8;have T:=Ld T8;clear T8 n3 n4;have hx:((st i).extract 1 (st i).size).data.toList=i.tail:=by rw[z0c];exact List.drop_one
 rw[← hx] at n5;clear hx;obtain⟨x,hx⟩:∃ x,Lib.indexByte ((st i).extract 1 (st i).size).data.toList 47=x:=⟨_,rfl⟩;rw[hx] at n5;have HX:=Ld hx;clear hx;go_wp2_with fail;refine(j3l _ _).mono ?_;rintro e w1 ⟨rfl,rfl⟩;rw[HX.out];go_upto_if 11 with fail
 go_cut [2] (fun s2 wx=>s2=.int .i64 n∧wx=wk)
 case first =>
  by_cases hx0:x + 1=0
  ·have hb:((x + 1) == 0)=true:=beq_iff_eq.2 hx0
   have hn:n=(st i).size:=by simp only [y9];omega
   go_wp2_with fail;go_meet
   case rel=>exact⟨by rw[hn],rfl⟩
  ·have hb:((x + 1) == 0)=false:=beq_eq_false_iff_ne.2 hx0
   go_wp2_with fail;go_meet
   case rel =>
    have:x + 1=(n:Int):=by omega
    exact⟨by rw[this],rfl⟩
 case rest =>
  obtain⟨rfl,rfl⟩:=hcut;have nz:(n:Int)≤(st i).size:=by simp only [y9];omega
  have hown:=h.own;have hsz:b + 1≤wc.heap.size:=h.blk.lt;have ca:(wc.alloc (.cells #[.string ((st i).extract 0 n)] 9)).cell? ⟨b,1,none⟩=some v:=(h.blk.alloc _).cell 1;have fa:(wc.alloc (.cells #[.string ((st i).extract 0 n)] 9)).frozen? ⟨b,1,none⟩=false:=(h.blk.alloc _).frozen 1;go_wp2_with fail;go_upto_region 3 with fail
  go_cut [] (fun wx=>∃ v',DSt b w wx i (o++[i.take n]) v')
  case first =>
   go_region_law (refine z8d rfl (.tmp 21) (.tmp 28) 105 rfl (b + 1) 9 i0 (.string ⟨#[]⟩) 1 16 underlying105 hi0 hz0 hz1 hz2 rfl (by decide) v o.length (sv o) (by simp[Act.eval,Act.put]) (hown.alloc _) ⟨wc.heap.size,0,none⟩ 1 1 [.string ((st i).extract 0 n)] (by simp[Act.eval,Act.put]) rfl (cell_one_new _ _ _) (one_cell _ rfl) (by unfold maxLen;omega) (by omega) (by simp;omega) ?_;intro v' w' hown' hg' hnn;have hgf:=h.grow hg';have c1':w'.cell? ⟨b,1,none⟩=some v:=hgf.1.cell 1;have f1':w'.frozen? ⟨b,1,none⟩=false:=hgf.1.frozen 1;obtain⟨g,cap,hv⟩:=own_form hown' (Nat.succ_pos _);rw[hv] at hown';rw[hv])
   all_goals
    go_wp2_with fail;go_meet
    case rel=>exact⟨_,DSt.grown hgf.1 hgf.2 hown'⟩
  case rest =>
   obtain⟨v2,h2⟩:=hcut
   rename_i we
   have d0:wc.cell? ⟨b,0,none⟩=some (.string (st i)):=h2.blk.cell 0;have g0:wc.frozen? ⟨b,0,none⟩=false:=h2.blk.frozen 0;go_wp2_with fail;go_end0;refine⟨rfl,v2,?_⟩;have hne:i.take n ≠ []:=by
    intro e
    rcases List.take_eq_nil_iff.1 e with h0 | h0
    ·omega
    ·exact hi h0
   have e1:Mg.z7q i o=o++[i.take n]:=by simp[Mg.z7q,T.out,hne]
   rw[T.out,e1,z0c];exact h2.left _

theorem q5u (l:List (List UInt8)):Lib.join l []=l.flatten:=by
 unfold Lib.join
 induction l with
 | nil=>rfl
 | cons a t ih =>
  cases t with
  | nil=>simp[List.intercalate,List.intersperse]
  | cons b t =>
   simp[List.intercalate,List.intersperse] at ih ⊢;exact ih

theorem j1n (base:Nat) (o:List (List UInt8)) (v:Value) (w:World) (hown:w.ownsRow base 9 1 v o.length (sv o)) (hl:o.length≤67108864) (hf:o.flatten.length≤67108864) :
  Calls prog 214 #[v,.string ⟨#[]⟩] w fun e w'=>e=.returned (.string (st o.flatten))∧Below w.heap.size w w':=by
 rcases hown.2 with ⟨rfl,h0⟩ | ⟨g,cap,cur,rfl,_,hh,hnc,hcm,_⟩
 ·have:o=[]:=List.eq_nil_of_length_eq_zero h0
  subst this;exact(Tryz.strings_Join_none none 0 ⟨#[]⟩ w).mono fun e w' ⟨he,hw⟩=>⟨he,by rw[hw];exact Below.refl _ _⟩
 ·have hc:=hown.cells (g:=g) rfl
  have e1:(o.map st).length=o.length:=by simp
  have e2:List.map (fun x:ByteArray=>x.data.toList) (o.map st)=o:=by rw[List.map_map];exact List.map_id _
  have hj:=Tryz.strings_Join g 0 cap (o.map st) ⟨#[]⟩ w (by
   intro j x hj;have hjo:(sv o)[j]? = some (.string x):=by
    simp only [sv,List.getElem?_map,Option.map_eq_some_iff] at hj ⊢;obtain⟨a,ha,rfl⟩:=hj;exact⟨a,ha,rfl⟩
   have:=hc j _ hjo;have ea:(⟨g,0,none⟩:Addr).add j=⟨g,0 + j,none⟩:=by unfold Addr.add;split <;> simp_all
   rw[← ea];exact this) (hown.lt g rfl).2 (by rw[e1];omega) (by rw[e1];exact hnc) (by rw[e2];show (Lib.join o []).length≤_;rw[q5u];omega)
  rw[e1,e2] at hj;refine hj.mono fun e w' ⟨he,hw⟩=>⟨?_,hw⟩
  rw[he];show Ending.returned (.string (st (Lib.join o [])))=_;rw[q5u]

theorem j4h (i:List UInt8) (o:List (List UInt8)):(Mg.z7q i o).length≤o.length + 1:=by
 unfold Mg.z7q;rw[List.length_append]
 split <;> split <;> simp <;> omega
theorem q8s (s:ByteArray) (w:World) (hs:s.size≤67108864) :
  Calls prog 199 #[.string s] w fun e w'=>e=.returned (.string (st (Mg.dots s.data.toList)))∧Below w.heap.size w w':=by
 have hd0:DSt w.heap.size w (w.alloc (.cells #[.string (st s.data.toList),.slice none 0 0] 249)) s.data.toList [] (.slice none 0 0) :=
  ⟨(Below.refl _ w).alloc (Lr) _,Blk.new w _ _,World.ownsRow_nil _ _ _ _⟩
 go_enter func199,ntmps199;go_wp2_with fail
 go_loopg [] s.size (fun g wx=>∃ i o v,i.length≤g∧o.length + i.length≤s.size∧DSt w.heap.size w wx i o v∧Hid (Mg.q41 i o.flatten=Mg.dots s.data.toList)∧Mg.z5u o∧Hid (o ≠ []→i=[]∨Mg.z15 i))
 case atStart=>exact⟨s.data.toList,[],_,by simp,by simp,hd0,rfl,trivial,fun h=>absurd rfl h⟩
 case round =>
  obtain⟨i,o,v,hig,hil,hd,hr,hok,hsl⟩:=hrel;have c0:wr.cell? ⟨w.heap.size,0,none⟩=some (.string (st i)):=hd.blk.cell 0
  by_cases hi:i=[]
  ·subst hi
   have he:(st []).toList=[]:=Lib.toList_data _;have hfl:o.flatten=Mg.dots s.data.toList:=by rw[← hr.out];rfl
   have hlen:o.flatten.length≤67108864:=by rw[hfl];have:=Mg.q42 s.data.toList;simp at this;omega
   have HF:=Ld hfl;have c1:wr.cell? ⟨w.heap.size,1,none⟩=some v:=hd.blk.cell 1;clear hfl;go_wp2_with fail;refine(j1n _ o v _ hd.own (by omega) hlen).mono ?_;rintro e w2 ⟨rfl,hb2⟩;go_wp2_with fail;go_ret;exact⟨by rw[HF.out];rfl,hd.below.trans (hb2.mono hd.below.size)⟩
  ·have he:(st i).toList.isEmpty=false:=by
    have:(st i).toList=i:=Lib.toList_data _;rw[this]
    cases i with
    | nil=>exact absurd rfl hi
    | cons _ _=>rfl
   obtain⟨p1,p2,p3⟩:=Mg.dpart_ok i o hi hok (fun h=>(hsl.out h).resolve_left hi);have hr2:Hid (Mg.q41 (Mg.V8 i).2.1 (Mg.z7q i o).flatten=Mg.dots s.data.toList):=by
    show _=_;rw[p1,← Mg.q2t i _ hi,hr.out]
   have hless:=Mg.z6c i hi;have hdp:=j4h i o;have P3:=Ld p3;clear p1 p3 hr;have HI:=Ld hi;clear hi;go_wp2_with fail;refine(q5m _ w _ i o v hd HI.out (by omega)).mono ?_;rintro e w2 ⟨rfl,v2,hd2⟩;go_wp2_with fail
   go_roundg (gk - 1)
   case measure=>omega
   case rel=>exact⟨_,_,v2,by omega,by omega,hd2,hr2,p2,P3⟩


def gath (l:List UInt8):List UInt8:=Mg.fold (l.filter (fun c=>decide (32 < c)))
theorem gath_yes (l:List UInt8) (c:UInt8) (h:32 < (c.toNat:Int)):gath (l++[c])=gath l++[Mg.low c]:=by
 have:decide (32 < c)=true:=by rw[decide_eq_true_eq,UInt8.lt_iff_toNat_lt];show 32 < c.toNat;omega
 simp[gath,List.filter_append,this,Mg.fold]
theorem gath_no (l:List UInt8) (c:UInt8) (h:¬ 32 < (c.toNat:Int)):gath (l++[c])=gath l:=by
 have:decide (32 < c)=false:=by rw[decide_eq_false_iff_not,UInt8.lt_iff_toNat_lt];show ¬ 32 < c.toNat;omega
 simp[gath,List.filter_append,this,Mg.fold]
theorem q97 (l:List UInt8):(gath l).length≤l.length:=by
 unfold gath Mg.fold;rw[List.length_map];exact List.length_filter_le _ _

theorem schOf_le (t:List UInt8):Mg.z1j t≤t.length:=by
 by_cases h:Mg.z1j t=0
 ·omega
 ·have:=(List.getElem?_eq_some_iff.1 (Mg.q9q t h)).1
  omega
theorem url_Is (s:ByteArray) (w:World) (hs:s.size≤67108864) :
  Calls prog 80 #[.string s] w fun e w'=>e=.returned (.bool (Mg.isSafe s.data.toList))∧Below w.heap.size w w':=by
 obtain⟨i0,hi,hz0,hz1,hz2⟩:=info_parts Tryz.infoB;have hcv:=Lib.run_convert_string_bytes (P:=prog) w 9 85 5 s (u:=.string) underlying9 underlying85 underlying5;have hcl:=fun j hj=>Lib.bytesWorld_cell w 5 s j hj
 have hbw:Below w.heap.size w (Lib.bytesWorld w 5 s):=⟨rfl,rfl,rfl,by rw[Lib.bytesWorld_size];omega,fun k hk=>Lib.bytesWorld_at_old w _ s k hk⟩;have hsz:=Lib.bytesWorld_size w 5 s;generalize Lib.bytesWorld w 5 s=wv at hcv hcl hbw hsz;have HCL:=Ld hcl;have HSZ:=Ld hsz;clear hcl hsz;go_enter func80,ntmps80;go_wp2_with fail;clear hcv
 go_loopw [3,5,11] (fun v _ i wr=>∃ k:Nat,k≤s.size∧i=.int .i64 k∧wr.ownsRow (w.heap.size + 1) 5 1 v (gath (s.data.toList.take k)).length (bv (gath (s.data.toList.take k)))∧Below (w.heap.size + 1) wv wr) (fun _ _ i _=>s.size - (intOf i).toNat)
 case atStart=>exact⟨0,Nat.zero_le _,rfl,World.ownsRow_nil _ _ _ _,Below.refl _ _⟩
 case round =>
  obtain⟨k,hk,rfl,hown,hbl⟩:=hrel
  by_cases hlt:k < s.size
  ·have hb:(s[k].toNat:Int)≤255:=by have:=s[k].toNat_lt;omega
   have hck:wr.cell? ⟨w.heap.size,k,none⟩=some (.int .u8 (s[k].toNat:Int)):=by
    rw[hbl.cell (p:=⟨w.heap.size,k,none⟩) (by show w.heap.size < w.heap.size + 1;omega),HCL.out k hlt];have:s.data.toList.getD k 0=s[k]:=by rw[List.getD_eq_getElem?_getD,Lib.data_getElem? s k hlt];rfl
    rw[this]
   have hszr:w.heap.size + 1≤wr.heap.size:=by have:=hbl.size;have:=HSZ.out;omega
   have hgl:=q97 (s.data.toList.take k);have hgl2:(gath (s.data.toList.take k)).length≤k:=by rw[List.length_take] at hgl;omega
   clear hgl
   by_cases h32:32 < (s[k].toNat:Int)
   ·have HF:=Ld (gath_yes (s.data.toList.take k) s[k] h32)
    have HT:=Ld (z5p s k hlt);go_wp2_with (first | (go_at_call 108;refine(q21 _ _).mono ?_;rintro e w' ⟨rfl,rfl⟩) | (at_builtin;refine wpList_append_own _ rfl _ _ 85 rfl (w.heap.size + 1) 5 i0 (.int .u8 0) 1 1 underlying85 hi hz0 hz1 hz2 rfl (by decide) _ _ _ rfl (hown.alloc _) ⟨wr.heap.size,0,none⟩ 1 1 [.int .u8 ((Mg.low s[k]).toNat:Int)] rfl rfl (cell_one_new _ _ _) (one_cell _ rfl) (by unfold maxLen;omega) (by omega) (by simp;omega) ?_));intro v' w1 hown' hgrow _;have hbl1:=below_grown (hbl.alloc hszr _) (hown.alloc _) hgrow (by simp;omega);rw[← q7i,← HF.out,← HT.out] at hown';have hln:(gath (s.data.toList.take k)).length + 1=(gath (s.data.toList.take (k + 1))).length:=by rw[HT.out,HF.out,List.length_append];rfl
    rw[hln] at hown';clear hown hgrow hbl hln;go_wp2;go_roundw
    case rel=>exact⟨k + 1,by omega,by go_num,hown',hbl1⟩
    case measure=>simp[intOf];omega
   ·have HF:=Ld (gath_no (s.data.toList.take k) s[k] h32)
    have HT:=Ld (z5p s k hlt);go_wp2;rw[← HF.out,← HT.out] at hown;go_roundw
    case rel=>exact⟨k + 1,by omega,by go_num,hown,hbl⟩
    case measure=>simp[intOf];omega
  ·rw[List.take_of_length_le (by simp;omega)] at hown
   have hc:=z0z (P:=prog) wr 85 9 5 underlying85 underlying5 underlying9 _ hown;have hfin:=Mg.q7t s.data.toList;have hgl:=q97 s.data.toList;have HF:=Ld hfin;clear hfin;have hbf:Below w.heap.size w wr:=hbw.trans (hbl.mono (by omega));obtain⟨t,ht⟩:∃ t,gath s.data.toList=t:=⟨_,rfl⟩;have hfin:Mg.isSafe s.data.toList=Mg.q4s (t.take (Mg.z1j t)):=by rw[HF.out,← ht];rfl
   rw[ht] at hc hgl hown;have HFF:=Ld hfin;clear hfin HF ht hown hbl hbw;have hnl:=schOf_le t;have hsl:t.length≤67108864:=by simp at hgl;omega
   go_wp2_with fail;change Calls _ _ #[.string (st t)] _ _;refine(z4k (st t) _ (by simp only [y9];omega)).mono ?_;rintro e w2 ⟨rfl,hb2⟩;obtain⟨n,hn⟩:∃ n,Mg.z1j (st t).data.toList=n:=⟨_,rfl⟩;rw[hn];have hnt:(n:Int)≤(st t).size:=by have hx:n=Mg.z1j t:=hn.symm;simp only [y9];omega
   have hnt2:n≤t.length:=by have hx:n=Mg.z1j t:=hn.symm;omega
   have hxl:(ByteArray.extract ⟨t.toArray⟩ 0 n).toList=t.take n:=by rw[z6e];simp
   have HXL:=Ld hxl;clear hxl;have hn2:Mg.z1j t=n:=hn;have HN:=Ld hn2;clear hn hn2 hc;go_wp2_with fail
   ·have e1:(ByteArray.extract ⟨t.toArray⟩ 0 n).toList=[104,116,116,112]:=by assumption
    go_ret;refine⟨Z8 ?_,hbf.trans (hb2.mono hbf.size)⟩;rw[HXL.out] at e1;rw[HFF.out,HN.out,e1];rfl
   ·have e1:(ByteArray.extract ⟨t.toArray⟩ 0 n).toList=[104,116,116,112,115]:=by assumption
    go_ret;refine⟨Z8 ?_,hbf.trans (hb2.mono hbf.size)⟩;rw[HXL.out] at e1;rw[HFF.out,HN.out,e1];rfl
   ·go_ret
    refine⟨Z8 ?_,hbf.trans (hb2.mono hbf.size)⟩;rw[HXL.out,HFF.out,HN.out];rfl


theorem q99 (a b:List UInt8) (hb:(47:UInt8) ∉ b) (ha:a=[]∨∃ t,a=t++[47]):((a++b).reverse.dropWhile (· != 47)).reverse=a:=by
 rw[List.reverse_append,Mg.z9d _ _ (by simpa using hb)]
 rcases ha with rfl | ⟨t,rfl⟩
 ·rfl
 ·simp
theorem last_cases (s:ByteArray):∃ m,m≤s.size∧(s.data.toList.reverse.dropWhile (· != 47)).reverse=s.data.toList.take m∧Lib.lastIndexByte s 47=(m:Int) - 1:=by
 have hget:∀ j (hj:j < s.size),s.data[j]! = s.data.toList[j]'(by simpa using hj):=fun j hj=>by
  have h1:j < s.data.size:=hj;rw[getElem!_pos s.data j h1];simp
 have hlen:s.data.toList.length=s.size:=by simp
 rcases Lib.lastIdx_spec s 47 s.size with ⟨h1,h2⟩ | ⟨i,hi,h1,h2,h3⟩
 ·refine⟨0,Nat.zero_le _,?_,by unfold Lib.lastIndexByte;omega⟩
  have h:=q99 [] s.data.toList (by
   intro hm;obtain⟨j,hj,he⟩:=List.getElem_of_mem hm;have hjs:j < s.size:=by omega
   have:=h2 j hjs;rw[hget j hjs,he] at this;exact this rfl) (.inl rfl)
  simpa using h
 ·refine⟨i + 1,by omega,?_,by unfold Lib.lastIndexByte;omega⟩
  have hil:i < s.data.toList.length:=by omega
  have e47:s.data.toList[i]=47:=by
   rw[hget i hi] at h2;exact UInt8.toNat_inj.1 (by rw[show (47:UInt8).toNat=47 from rfl];omega)
  have h:=q99 (s.data.toList.take (i + 1)) (s.data.toList.drop (i + 1)) (by
   intro hm;obtain⟨j,hj,he⟩:=List.getElem_of_mem hm;rw[List.length_drop] at hj;rw[List.getElem_drop] at he;have hjs:i + 1 + j < s.size:=by omega
   have:=h3 (i + 1 + j) (by omega) hjs;rw[hget _ hjs,he] at this;exact this rfl) (.inr ⟨s.data.toList.take i,by rw[List.take_succ_eq_append_getElem hil,e47]⟩)
  rwa [List.take_append_drop] at h

theorem j2z (b u:Mg.U) (w:World) (hb:b.pa.length≤67108864) (hu:u.pa.length≤67108864) :
  Calls prog 198 #[uVal b,uVal u] w fun e w'=>e=.returned (.string (st (Mg.z6t b u)))∧Below w.heap.size w w':=by
 have hw2:Below w.heap.size w ((w.alloc (.cells (z03 b) 223)).alloc (.cells (z03 u) 223)):=((Below.refl _ w).alloc (Lr) _).alloc (by simp) _;have b1:=Blk.new (w.alloc (.cells (z03 b) 223)) 223 (z03 u);have e1:(w.alloc (.cells (z03 b) 223)).heap.size=w.heap.size + 1:=by simp
 rw[e1] at b1;have b0:=(Blk.new w 223 (z03 b)).alloc (.cells (z03 u) 223);clear e1;unfold uVal;go_enter func198,ntmps198;go_upto_region 1 with fail;change Code.wp _ _ _ _ ((w.alloc (.cells (z03 b) 223)).alloc (.cells (z03 u) 223));generalize (w.alloc (.cells (z03 b) 223)).alloc (.cells (z03 u) 223)=w2 at hw2 b0 b1 ⊢;have c1:w2.cell? ⟨w.heap.size,6,none⟩=some (.bool b.ha):=b0.cell 6;have c2:w2.cell? ⟨w.heap.size,2,none⟩=some (.string (st b.pa)):=b0.cell 2;have c3:w2.cell? ⟨w.heap.size + 1,2,none⟩=some (.string (st u.pa)):=b1.cell 2;clear b0 b1;have z1:(st b.pa).size≤67108864:=hb;have z2:(st u.pa).size≤67108864:=hu
 by_cases hc:b.ha=true∧b.pa=[]
 ·obtain⟨h1,h2⟩:=hc
  rw[h1] at c1;rw[h2] at c2;have he:(st []).toList=[]:=Lib.toList_data _;have HM:Hid (Mg.z6t b u=47 :: u.pa):=by show _=_;simp[Mg.z6t,h1,h2]
  clear h1 h2;go_wp2_with fail;go_ret;refine⟨?_,hw2⟩;rw[HM.out];exact z8v (z19 _ _)
 ·have HNF:Hid ((b.ha && b.pa.isEmpty)=false):=by
   show _=_
   cases hx:b.ha with
   | false=>rfl
   | true =>
    cases hy:b.pa with
    | nil=>exact absurd ⟨hx,hy⟩ hc
    | cons _ _=>rfl
  obtain⟨m,m1,m2,m3⟩:=last_cases (st b.pa);have HM:Hid (Mg.z6t b u=b.pa.take m++u.pa):=by
   show _=_;have hf:(b.ha && b.pa.isEmpty)=false:=HNF.out;rw[Mg.z6t,if_neg (by rw[hf];exact Bool.false_ne_true)];exact congrArg (·++u.pa) m2
  have M3:=Ld m3;clear m2 m3;have m4:(m:Int)≤(st b.pa).size:=by omega
  have lc:=fun W=>(Tryz.strings_LastIndexByte (st b.pa) 47 (by omega) W)
  rw[M3.out] at lc;have LC:=Ld lc;clear lc;have k1:(0:Int)≤(m:Int) - 1 + 1:=by omega
  have k2:IntKind.i64.wrap ((m:Int) - 1 + 1)=(m:Int):=by rw[IntWalk.i64_in _ (by omega)];omega
  have k3:((st b.pa).extract 0 m).size≤67108864:=by rw[z3b];simp[y9];omega
  by_cases hha:b.ha=true
  ·rw[hha] at c1
   have he:(st b.pa).toList.isEmpty=false:=by
    have e1:(st b.pa).toList=b.pa:=Lib.toList_data _;rw[e1];have:=HNF.out;rw[hha] at this
    simpa using this
   clear hha hc;go_upto_region 3 with fail
   go_quiet ((go_at_call 212;exact Calls.quiet_of_same (LC.out _)))
   go_wp2_with fail;go_ret;refine⟨?_,below_drewN hw2 _⟩;rw[HM.out];refine z8v ?_;rw[z3b,z19];rfl
  ·have hha':b.ha=false:=by simpa using hha
   rw[hha'] at c1;clear hha hha' hc;go_upto_region 3 with fail
   go_quiet ((go_at_call 212;exact Calls.quiet_of_same (LC.out _)))
   go_wp2_with fail;go_ret;refine⟨?_,below_drewN hw2 _⟩;rw[HM.out];refine z8v ?_;rw[z3b,z19];rfl

def z3i (b u:Mg.U):List UInt8:=if u.hs || u.ha then u.pa else if u.pa=[] then b.pa else if Mg.isAt 47 u.pa then u.pa else Mg.z6t b u
def rU1 (b u:Mg.U):Mg.U:=if u.hs || u.ha then u else if u.pa=[] then (if u.hq then u else { u with qu:=b.qu,hq:=b.hq }) else u
def rU2 (b u:Mg.U):Mg.U:=if u.hs then rU1 b u else if u.ha then { rU1 b u with sch:=b.sch,hs:=true } else { rU1 b u with sch:=b.sch,hs:=true,au:=b.au,ha:=b.ha }
theorem rU_res (b u:Mg.U) : { rU2 b u with pa:=Mg.dots (z3i b u) } = Mg.resU b u:=by
 obtain⟨s,a,p,q,f,hs,ha,hq,hf⟩:=u;unfold Mg.resU rU2 rU1 z3i
 cases hs <;> cases ha <;> cases hq <;> by_cases hp:p=[] <;> simp[hp]
theorem z6l (s:List UInt8):(Mg.split s).sch.length≤s.length∧(Mg.split s).au.length≤s.length∧(Mg.split s).pa.length≤s.length∧(Mg.split s).qu.length≤s.length∧(Mg.split s).fr.length≤s.length:=by
 have a1:(Mg.z0q s).length≤s.length:=by unfold Mg.z0q;split <;> simp
 have a2:∀ r,(Mg.z2z r).length≤r.length:=fun r=>by
  unfold Mg.z2z;split
  ·refine Nat.le_trans (z6k _ _) ?_;simp
  ·omega
 have a3:∀ r,(Mg.z1w r).length≤r.length:=fun r=>by
  unfold Mg.z1w;split
  ·refine Nat.le_trans (z6k _ _) ?_;simp
  ·omega
 have up:∀ p r,(Mg.upto p r).length≤r.length:=fun p r=>(List.takeWhile_prefix _).length_le
 have b2:=a2 (Mg.z0q s);have b3:=z6k Mg.z3j (Mg.z2z (Mg.z0q s));have b4:=a3 (Mg.past Mg.z3j (Mg.z2z (Mg.z0q s)));refine⟨?_,?_,?_,?_,?_⟩
 ·show (if _ then _ else _:List UInt8).length≤_
  split <;> simp;omega
 ·show (if _ then _ else _:List UInt8).length≤_
  split
  ·have:=up Mg.q4u ((Mg.z0q s).drop 2);rw[List.length_drop] at this;omega
  ·simp
 ·have:=up Mg.z3j (Mg.z2z (Mg.z0q s));show (Mg.upto _ _).length≤_;omega
 ·show (if _ then _ else _:List UInt8).length≤_
  split
  ·have:=up Mg.q1u (Mg.past Mg.z3j (Mg.z2z (Mg.z0q s))).tail;rw[List.length_tail] at this;omega
  ·simp
 ·show (List.tail _).length≤_
  rw[List.length_tail];omega
theorem merge_le (b u:Mg.U):(Mg.z6t b u).length≤b.pa.length + u.pa.length + 1:=by
 unfold Mg.z6t
 split
 ·simp
 ·have:=(List.dropWhile_suffix (l:=b.pa.reverse) (fun c:UInt8=>c != 47)).length_le
  simp at this ⊢;omega
theorem q9k (b u:Mg.U):(z3i b u).length≤b.pa.length + u.pa.length + 1:=by
 have:=merge_le b u;unfold z3i
 split
 ·omega
 split
 ·omega
 split <;> omega

theorem rU2_le (b u:Mg.U):(rU2 b u).sch.length≤b.sch.length + u.sch.length∧(rU2 b u).au.length≤b.au.length + u.au.length∧(rU2 b u).qu.length≤b.qu.length + u.qu.length∧(rU2 b u).fr.length≤u.fr.length:=by
 obtain⟨s,a,p,q,f,hs,ha,hq,hf⟩:=u;unfold rU2 rU1
 cases hs <;> cases ha <;> cases hq <;> by_cases hp:p=[] <;> simp[hp] <;> omega
structure RSt (w wk:World) (B:Nat) (b u:Mg.U):Prop where
 le:w.heap.size≤B
 below:Below w.heap.size w wk
 bb:Blk wk B 223 (z03 b)
 uu:Blk wk (B + 1) 223 (z03 u)
theorem RSt.grow {w wk w1:World} {B:Nat} {b u:Mg.U} (h:RSt w wk B b u) (hb:Below wk.heap.size wk w1):RSt w w1 B b u :=
 ⟨h.le,h.below.trans (hb.mono h.below.size),h.bb.below hb h.bb.lt,h.uu.below hb h.uu.lt⟩
theorem RSt.drew {w wk:World} {B:Nat} {b u:Mg.U} (h:RSt w wk B b u) (n:Nat):RSt w (wk.drewN n) B b u :=
 ⟨h.le,below_drewN h.below n,h.bb.drewN n,h.uu.drewN n⟩
theorem RSt.drew1 {w wk:World} {B:Nat} {b u:Mg.U} (h:RSt w wk B b u):RSt w wk.drew B b u:=⟨h.le,h.below.drew,h.bb.drew,h.uu.drew⟩
theorem RSt.put {w wk:World} {B:Nat} {b u:Mg.U} (h:RSt w wk B b u) (i:Nat) (v:Value) (u':Mg.U) (hu:(z03 u).setIfInBounds i v=z03 u'):RSt w (wk.setCell ⟨B + 1,i,none⟩ v) B b u' :=
 ⟨h.le,h.below.setCell (by have:=h.le;show _≤B + 1;omega) _,h.bb.far (by show B ≠ B + 1;omega) _,by rw[← hu];exact h.uu.set_ i v⟩
theorem RSt.start {w w2:World} (b u:Mg.U) (hb:Below w.heap.size w w2):RSt w ((w2.alloc (.cells (z03 b) 223)).alloc (.cells (z03 u) 223)) w2.heap.size b u:=by
 have e1:(w2.alloc (.cells (z03 b) 223)).heap.size=w2.heap.size + 1:=by simp
 have b1:=Blk.new (w2.alloc (.cells (z03 b) 223)) 223 (z03 u);rw[e1] at b1;have:=hb.size;exact⟨hb.size,(hb.alloc hb.size _).alloc (by omega) _,(Blk.new w2 _ _).alloc _,b1⟩

theorem z9m (base s:ByteArray) (w:World) (hb:base.size≤3000) (hs:s.size≤3000) :
  Calls prog 182 #[.string base,.string s] w fun e w'=>e=.returned (.tuple #[.string (st (Mg.join (Mg.resU (Mg.split base.data.toList) (Mg.split s.data.toList)))),.bool (Mg.q33 (Mg.resU (Mg.split base.data.toList) (Mg.split s.data.toList)))])∧Below w.heap.size w w':=by
 go_enter func182,ntmps182;go_wp2_with fail;refine(q20 base _ (by omega)).mono ?_;rintro e w1 ⟨rfl,hb1⟩;obtain⟨b,hbe⟩:∃ b,b=Mg.split base.data.toList:=⟨_,rfl⟩;rw[← hbe];have BE:=Ld hbe;clear hbe;go_wp2_with fail;refine(q20 s _ (by omega)).mono ?_;rintro e w2 ⟨rfl,hb2⟩;obtain⟨u,hue⟩:∃ u,u=Mg.split s.data.toList:=⟨_,rfl⟩;rw[← hue];have UE:=Ld hue;have hbw:=hb1.trans (hb2.mono hb1.size);have r0:=RSt.start b u hbw;clear hb1 hb2 hue hbw;unfold uVal;go_upto_region 2 with fail;change Code.wp _ _ _ _ ((w2.alloc (.cells (z03 b) 223)).alloc (.cells (z03 u) 223));generalize (w2.alloc (.cells (z03 b) 223)).alloc (.cells (z03 u) 223)=w3 at r0 ⊢;generalize w2.heap.size=B at r0 ⊢;have c2:w3.cell? ⟨B + 1,2,none⟩=some (.string (st u.pa)):=r0.uu.cell 2;have c5:w3.cell? ⟨B + 1,5,none⟩=some (.bool u.hs):=r0.uu.cell 5;have c6:w3.cell? ⟨B + 1,6,none⟩=some (.bool u.ha):=r0.uu.cell 6
 go_upto_block 0 with fail
 go_cut [8] (fun s8 wx=>s8=.string (st (z3i b u))∧RSt w wx B b (rU1 b u))
 case first =>
  by_cases hsa:u.hs=true∨u.ha=true
  ·have P:Hid (z3i b u=u.pa∧rU1 b u=u):=by
    have h:(u.hs || u.ha)=true:=by simpa using hsa
    exact⟨by simp[z3i,h],by simp[rU1,h]⟩
   by_cases h1:u.hs=true
   ·rw[h1] at c5
    clear h1 hsa;go_wp2_with fail;go_meet
    case rel=>rw[P.out.1,P.out.2];exact⟨rfl,r0⟩
   ·have h2:u.ha=true:=hsa.resolve_left h1
    have h3:u.hs=false:=by simpa using h1
    rw[h3] at c5;rw[h2] at c6;clear h1 h2 h3 hsa;go_wp2_with fail;go_meet
    case rel=>rw[P.out.1,P.out.2];exact⟨rfl,r0⟩
  ·have h3:u.hs=false:=by cases h:u.hs with | false=>rfl | true=>exact absurd (.inl h) hsa
   have h4:u.ha=false:=by cases h:u.ha with | false=>rfl | true=>exact absurd (.inr h) hsa
   have H:Hid ((u.hs || u.ha)=false):=by show _=_;rw[h3,h4];rfl
   rw[h3] at c5;rw[h4] at c6;clear h3 h4 hsa
   by_cases hp:u.pa=[]
   ·have hpe:(st u.pa).toList=[]:=by rw[hp];exact Lib.toList_data _
    have cb:w3.cell? ⟨B,2,none⟩=some (.string (st b.pa)):=r0.bb.cell 2;have c7:w3.cell? ⟨B + 1,7,none⟩=some (.bool u.hq):=r0.uu.cell 7
    cases hq:u.hq with
    | true =>
     rw[hq] at c7;have P:Hid (z3i b u=b.pa∧rU1 b u=u):=⟨by simp[z3i,H.out,hp],by simp[rU1,H.out,hp,hq]⟩;clear hq hp;go_wp2_with fail;go_meet
     case rel=>rw[P.out.1,P.out.2];exact⟨rfl,r0⟩
    | false =>
     rw[hq] at c7;have P:Hid (z3i b u=b.pa∧rU1 b u = { u with qu:=b.qu,hq:=b.hq }):=⟨by simp[z3i,H.out,hp],by simp[rU1,H.out,hp,hq]⟩;have d3:w3.cell? ⟨B,3,none⟩=some (.string (st b.qu)):=r0.bb.cell 3;have d7:w3.cell? ⟨B,7,none⟩=some (.bool b.hq):=r0.bb.cell 7;have c3:w3.cell? ⟨B + 1,3,none⟩=some (.string (st u.qu)):=r0.uu.cell 3;have f3:w3.frozen? ⟨B + 1,3,none⟩=false:=r0.uu.frozen 3;have f7:w3.frozen? ⟨B + 1,7,none⟩=false:=r0.uu.frozen 7;clear hq hp;go_wp2_with fail
     go_region
     all_goals
      go_wp2_with fail;go_meet
      case rel =>
       rw[P.out.1,P.out.2];exact⟨rfl,((r0.put 3 (.string (st b.qu)) { u with qu:=b.qu } rfl).put 7 (.bool b.hq) { u with qu:=b.qu,hq:=b.hq } rfl).drew1⟩
   ·have hpe:(st u.pa).toList.isEmpty=false:=by
     have e1:(st u.pa).toList=u.pa:=Lib.toList_data _;rw[e1]
     cases hx:u.pa with
     | nil=>exact absurd hx hp
     | cons _ _=>rfl
    have hpos:0 < (st u.pa).size:=List.length_pos_iff.2 hp;obtain⟨c,t,hct⟩:=List.exists_cons_of_ne_nil hp;have hc0:(st u.pa)[0]'hpos=c:=by
     have h:(st u.pa).data.toList[0]? = some ((st u.pa)[0]'hpos):=Lib.data_getElem? (st u.pa) 0 hpos;have h2:(st u.pa).data.toList[0]? = some c:=by rw[z0b,hct];rfl
     rw[h2] at h;injection h with h;exact h.symm
    by_cases h47:c=47
    ·have hne:((((st u.pa)[0]'hpos).toNat:Int) != 47)=false:=by rw[hc0,h47];decide
     have P:Hid (z3i b u=u.pa∧rU1 b u=u):=⟨by simp[z3i,H.out,hct,Mg.isAt,h47],by simp[rU1,H.out,hp]⟩;clear hc0 hct hp;go_wp2_with fail;go_meet
     case rel=>rw[P.out.1,P.out.2];exact⟨rfl,r0⟩
    ·have hne:((((st u.pa)[0]'hpos).toNat:Int) != 47)=true:=by
      rw[hc0,bne_iff_ne];intro e;exact h47 (UInt8.toNat_inj.1 (by rw[show (47:UInt8).toNat=47 from rfl];omega))
     have P:Hid (z3i b u=Mg.z6t b u∧rU1 b u=u):=⟨by simp[z3i,H.out,hct,Mg.isAt,h47],by simp[rU1,H.out,hp]⟩;clear hc0 hct hp;have m0:w3.cell? ⟨B,0,none⟩=some (.string (st b.sch)):=r0.bb.cell 0;have n0:w3.cell? ⟨B + 1,0,none⟩=some (.string (st u.sch)):=r0.uu.cell 0;have m1:w3.cell? ⟨B,1,none⟩=some (.string (st b.au)):=r0.bb.cell 1;have n1:w3.cell? ⟨B + 1,1,none⟩=some (.string (st u.au)):=r0.uu.cell 1;have m2:w3.cell? ⟨B,2,none⟩=some (.string (st b.pa)):=r0.bb.cell 2;have n2:w3.cell? ⟨B + 1,2,none⟩=some (.string (st u.pa)):=r0.uu.cell 2;have m3:w3.cell? ⟨B,3,none⟩=some (.string (st b.qu)):=r0.bb.cell 3;have n3:w3.cell? ⟨B + 1,3,none⟩=some (.string (st u.qu)):=r0.uu.cell 3;have m4:w3.cell? ⟨B,4,none⟩=some (.string (st b.fr)):=r0.bb.cell 4;have n4:w3.cell? ⟨B + 1,4,none⟩=some (.string (st u.fr)):=r0.uu.cell 4;have m5:w3.cell? ⟨B,5,none⟩=some (.bool b.hs):=r0.bb.cell 5;have n5:w3.cell? ⟨B + 1,5,none⟩=some (.bool u.hs):=r0.uu.cell 5;have m6:w3.cell? ⟨B,6,none⟩=some (.bool b.ha):=r0.bb.cell 6;have n6:w3.cell? ⟨B + 1,6,none⟩=some (.bool u.ha):=r0.uu.cell 6;have m7:w3.cell? ⟨B,7,none⟩=some (.bool b.hq):=r0.bb.cell 7;have n7:w3.cell? ⟨B + 1,7,none⟩=some (.bool u.hq):=r0.uu.cell 7;have m8:w3.cell? ⟨B,8,none⟩=some (.bool b.hf):=r0.bb.cell 8;have n8:w3.cell? ⟨B + 1,8,none⟩=some (.bool u.hf):=r0.uu.cell 8;go_wp2_with fail;refine(j2z b { u with hs:=false,ha:=false } _ (by have:=z6l base.data.toList;rw[BE.out];simp at this ⊢;omega) (by have:=z6l s.data.toList;rw[UE.out];simp at this ⊢;omega)).mono ?_;rintro e w4 ⟨rfl,hb4⟩;have r1:=r0.grow hb4;clear hb4;go_wp2_with fail;go_meet
     case rel=>rw[P.out.1,P.out.2];exact⟨rfl,r1⟩
 case rest =>
  obtain⟨rfl,r1⟩:=hcut;clear c2 c5 c6 r0;obtain⟨u1,hu1⟩:∃ u1,u1=rU1 b u:=⟨_,rfl⟩;have hks:u1.hs=u.hs∧u1.ha=u.ha:=by rw[hu1];unfold rU1;split;exact⟨rfl,rfl⟩;split;split;exact⟨rfl,rfl⟩;exact⟨rfl,rfl⟩;exact⟨rfl,rfl⟩
  rw[← hu1] at r1;have H1:=Ld hu1;have HK:=Ld hks;clear hu1 hks;have c5:wc.cell? ⟨B + 1,5,none⟩=some (.bool u1.hs):=r1.uu.cell 5;go_upto_if 45 with fail
  go_cut [] (fun wx=>RSt w wx B b (rU2 b u))
  case first =>
   cases h:u1.hs with
   | true =>
    rw[h] at c5;have P:Hid (rU2 b u=u1):=by show _=_;rw[rU2,if_pos (by rw[← HK.out.1];exact h),H1.out]
    clear h;go_wp2_with fail;go_meet
    case rel=>rw[P.out];exact r1
   | false =>
    rw[h] at c5;have hns:¬ u.hs=true:=by rw[← HK.out.1,h];exact Bool.false_ne_true
    have d0:wc.cell? ⟨B,0,none⟩=some (.string (st b.sch)):=r1.bb.cell 0;have c0:wc.cell? ⟨B + 1,0,none⟩=some (.string (st u1.sch)):=r1.uu.cell 0;have c6:wc.cell? ⟨B + 1,6,none⟩=some (.bool u1.ha):=r1.uu.cell 6;have f0:wc.frozen? ⟨B + 1,0,none⟩=false:=r1.uu.frozen 0;have f5:wc.frozen? ⟨B + 1,5,none⟩=false:=r1.uu.frozen 5;have r2:=(r1.put 0 (.string (st b.sch)) { u1 with sch:=b.sch } rfl).put 5 (.bool true) { u1 with sch:=b.sch,hs:=true } rfl
    cases h6:u1.ha with
    | true =>
     rw[h6] at c6;have P:Hid (rU2 b u = { u1 with sch:=b.sch,hs:=true }):=by show _=_;rw[rU2,if_neg hns,if_pos (by rw[← HK.out.2];exact h6),H1.out]
     clear h h6 hns;go_wp2_with fail;go_meet
     case rel=>rw[P.out];exact r2
    | false =>
     rw[h6] at c6;have P:Hid (rU2 b u = { u1 with sch:=b.sch,hs:=true,au:=b.au,ha:=b.ha }):=by show _=_;rw[rU2,if_neg hns,if_neg (by rw[← HK.out.2,h6];exact Bool.false_ne_true),H1.out]
     have d1:wc.cell? ⟨B,1,none⟩=some (.string (st b.au)):=r1.bb.cell 1;have d6:wc.cell? ⟨B,6,none⟩=some (.bool b.ha):=r1.bb.cell 6;have c1:wc.cell? ⟨B + 1,1,none⟩=some (.string (st u1.au)):=r1.uu.cell 1;have f1:wc.frozen? ⟨B + 1,1,none⟩=false:=r1.uu.frozen 1;have f6:wc.frozen? ⟨B + 1,6,none⟩=false:=r1.uu.frozen 6;clear h h6 hns;go_wp2_with fail
     go_region
     all_goals
      go_wp2_with fail;go_meet
      case rel =>
       rw[P.out];exact((r2.put 1 (.string (st b.au)) { u1 with sch:=b.sch,hs:=true,au:=b.au } rfl).put 6 (.bool b.ha) { u1 with sch:=b.sch,hs:=true,au:=b.au,ha:=b.ha } rfl).drew1
  case rest =>
   obtain⟨u2,hu2⟩:∃ u2,u2=rU2 b u:=⟨_,rfl⟩;rw[← hu2] at hcut;have H2:=Ld hu2;clear hu2 c5 r1;have lb:=z6l base.data.toList;have ls:=z6l s.data.toList;have lp:=q9k b u;rw[← BE.out] at lb;rw[← UE.out] at ls;simp only [bs_len] at lb ls;go_wp2_with fail;refine(q8s _ _ (by show (z3i b u).length≤_;omega)).mono ?_;rintro e w4 ⟨rfl,hb4⟩;have r3:=hcut.grow hb4;change RSt w w4 B b u2 at r3;have c2:w4.cell? ⟨B + 1,2,none⟩=some (.string (st u2.pa)):=r3.uu.cell 2;have f2:w4.frozen? ⟨B + 1,2,none⟩=false:=r3.uu.frozen 2;obtain⟨u3,hu3⟩:∃ u3,u3=({ u2 with pa:=Mg.dots (z3i b u) }:Mg.U):=⟨_,rfl⟩;have r4:RSt w (w4.setCell ⟨B + 1,2,none⟩ (.string (st (Mg.dots (z3i b u))))) B b u3:=by rw[hu3];exact r3.put 2 _ _ rfl
   have hres:u3=Mg.resU b u:=by rw[hu3,H2.out];exact rU_res b u
   have lu:u3.sch.length + u3.au.length + u3.pa.length + u3.qu.length + u3.fr.length≤1048576:=by
    have h1:=rU2_le b u;have h2:=Mg.q42 (z3i b u);rw[hu3,H2.out];simp only;omega
   have HR:=Ld hres;clear hu3 hres;go_upto_region 15 with fail;change Code.wp _ _ _ _ (w4.setCell ⟨B + 1,2,none⟩ (.string (st (Mg.dots (z3i b u)))));generalize w4.setCell ⟨B + 1,2,none⟩ (.string (st (Mg.dots (z3i b u))))=w5 at r4 ⊢;clear c2 f2 r3;have n0:w5.cell? ⟨B + 1,0,none⟩=some (.string (st u3.sch)):=r4.uu.cell 0;have n1:w5.cell? ⟨B + 1,1,none⟩=some (.string (st u3.au)):=r4.uu.cell 1;have n2:w5.cell? ⟨B + 1,2,none⟩=some (.string (st u3.pa)):=r4.uu.cell 2;have n3:w5.cell? ⟨B + 1,3,none⟩=some (.string (st u3.qu)):=r4.uu.cell 3;have n4:w5.cell? ⟨B + 1,4,none⟩=some (.string (st u3.fr)):=r4.uu.cell 4;have n5:w5.cell? ⟨B + 1,5,none⟩=some (.bool u3.hs):=r4.uu.cell 5;have n6:w5.cell? ⟨B + 1,6,none⟩=some (.bool u3.ha):=r4.uu.cell 6;have n7:w5.cell? ⟨B + 1,7,none⟩=some (.bool u3.hq):=r4.uu.cell 7;have n8:w5.cell? ⟨B + 1,8,none⟩=some (.bool u3.hf):=r4.uu.cell 8;go_wp2_with fail;refine(j2y u3 _ lu).mono ?_;rintro e w6 ⟨rfl,hb6⟩;go_wp2_with fail;go_ret2;exact⟨by rw[← BE.out,← UE.out,← HR.out];rfl,r4.below.trans (hb6.mono r4.below.size)⟩

theorem z9x (base s:ByteArray) (w:World) (h:3000 < base.size∨3000 < s.size) :
  Calls prog 167 #[.string base,.string s] w fun e w'=>e=.returned (.tuple #[.string (st []),.int .i64 2])∧Below w.heap.size w w':=by
 by_cases hb:3000 < base.size
 ·have hd:decide (3000 < base.size)=true:=by simpa using hb
  go_enter func167,ntmps167;go_wp2_with (go_at_call 181;refine(z2x _ _).mono ?_;rintro e w' ⟨rfl,rfl⟩;rw[hd]);go_ret2;exact⟨rfl,Below.refl _ _⟩
 ·have hd:decide (3000 < base.size)=false:=by simpa using hb
  have hd2:decide (3000 < s.size)=true:=by simpa using h.resolve_left hb
  clear hb h;go_enter func167,ntmps167;go_wp2_with fail;refine(z2x base _).mono ?_;rintro e w' ⟨rfl,rfl⟩;rw[hd];go_wp2_with fail;refine(z2x s _).mono ?_;rintro e w' ⟨rfl,rfl⟩;rw[hd2];go_wp2_with fail;go_ret2;exact⟨rfl,Below.refl _ _⟩

theorem z9w (base s:ByteArray) (w:World) (hb:base.size≤3000) (hs:s.size≤3000) (h0:Mg.z1j base.data.toList=0) :
  Calls prog 167 #[.string base,.string s] w fun e w'=>e=.returned (.tuple #[.string (st []),.int .i64 1])∧Below w.heap.size w w':=by
 have hd:decide (3000 < base.size)=false:=decide_eq_false (by omega);have hd2:decide (3000 < s.size)=false:=decide_eq_false (by omega);have H0:=Ld h0;clear h0;go_enter func167,ntmps167;go_wp2_with fail;refine(z2x base _).mono ?_;rintro e w' ⟨rfl,rfl⟩;rw[hd];go_wp2_with fail;refine(z2x s _).mono ?_;rintro e w' ⟨rfl,rfl⟩;rw[hd2];go_wp2_with fail;refine(z4k base _ (by omega)).mono ?_;rintro e w1 ⟨rfl,hb1⟩;rw[H0.out];go_wp2_with fail;go_ret2;exact⟨rfl,hb1⟩

theorem q2f (base s:ByteArray) (w:World) (hb:base.size≤3000) (hs:s.size≤3000) (h0:Mg.z1j base.data.toList ≠ 0) (hn:Mg.q33 (Mg.resU (Mg.split base.data.toList) (Mg.split s.data.toList))=false) :
  Calls prog 167 #[.string base,.string s] w fun e w'=>e=.returned (.tuple #[.string (st []),.int .i64 1])∧Below w.heap.size w w':=by
 have hd:decide (3000 < base.size)=false:=decide_eq_false (by omega);have hd2:decide (3000 < s.size)=false:=decide_eq_false (by omega);obtain⟨n,hne⟩:∃ n,n=Mg.z1j base.data.toList:=⟨_,rfl⟩;rw[← hne] at h0;have hz:((n:Int) == 0)=false:=beq_eq_false_iff_ne.2 (by omega);have HN:=Ld hne;have HJ:=Ld hn;clear hne hn;go_enter func167,ntmps167;go_wp2_with fail;refine(z2x base _).mono ?_;rintro e w' ⟨rfl,rfl⟩;rw[hd];go_wp2_with fail;refine(z2x s _).mono ?_;rintro e w' ⟨rfl,rfl⟩;rw[hd2];go_wp2_with fail;refine(z4k base _ (by omega)).mono ?_;rintro e w1 ⟨rfl,hb1⟩;rw[← HN.out];go_wp2_with fail;refine(z9m base s _ hb hs).mono ?_;rintro e w2 ⟨rfl,hb2⟩;rw[HJ.out];go_wp2_with fail;go_ret2;exact⟨rfl,hb1.trans (hb2.mono hb1.size)⟩

theorem q2g (base s:ByteArray) (w:World) (hb:base.size≤3000) (hs:s.size≤3000) (h0:Mg.z1j base.data.toList ≠ 0) (hn:Mg.q33 (Mg.resU (Mg.split base.data.toList) (Mg.split s.data.toList))=true) :
  Calls prog 167 #[.string base,.string s] w fun e w'=>e=.returned (.tuple #[.string (st (Mg.join (Mg.resU (Mg.split base.data.toList) (Mg.split s.data.toList)))),.int .i64 0])∧Below w.heap.size w w':=by
 have hd:decide (3000 < base.size)=false:=decide_eq_false (by omega);have hd2:decide (3000 < s.size)=false:=decide_eq_false (by omega);obtain⟨n,hne⟩:∃ n,n=Mg.z1j base.data.toList:=⟨_,rfl⟩;rw[← hne] at h0;have hz:((n:Int) == 0)=false:=beq_eq_false_iff_ne.2 (by omega);have HN:=Ld hne;have HJ:=Ld hn;clear hne hn;go_enter func167,ntmps167;go_wp2_with fail;refine(z2x base _).mono ?_;rintro e w' ⟨rfl,rfl⟩;rw[hd];go_wp2_with fail;refine(z2x s _).mono ?_;rintro e w' ⟨rfl,rfl⟩;rw[hd2];go_wp2_with fail;refine(z4k base _ (by omega)).mono ?_;rintro e w1 ⟨rfl,hb1⟩;rw[← HN.out];go_wp2_with fail;refine(z9m base s _ hb hs).mono ?_;rintro e w2 ⟨rfl,hb2⟩;rw[HJ.out];go_wp2_with fail;go_ret2;exact⟨rfl,hb1.trans (hb2.mono hb1.size)⟩
end Go.Proofs.YtagleefekmdldaaGreatDoor
