/- Small laws for the walks: bytes in memory as a string, a push onto an owned row, worlds. No program in sight. -/
import Derived.WalkKit
import Derived.WalkSpells
import Derived.WalkLawsBesides
import Derived.Lib.Hide
import Derived.Lib.Strings
import Derived.Deep.QuietTactic
import Derived.BigQuiet
set_option linter.unusedVariables false
set_option linter.unusedSimpArgs false
theorem Lr {a:Nat}:a≤a:=Nat.le_refl a
namespace Go.Proofs.YtagleefekmdldaaGreatDoor
open Go.RowKit
theorem Ld {p:Prop} (h:p):RowKit.Hid p:=Lib.hid h

theorem Z8 {a b:Bool} (h:a=b):Ending.returned (.bool a)=.returned (.bool b):=by rw[h]
theorem z06 {k:IntKind} {a b:Int} (h:a=b):Ending.returned (.int k a)=.returned (.int k b):=by rw[h]
theorem z8v {a b:ByteArray} (h:a=b):Ending.returned (.string a)=.returned (.string b):=by rw[h]
theorem X6 (s:ByteArray) (k:Nat) (h:k < s.size):s.data.toList.drop k=s[k] :: s.data.toList.drop (k + 1):=by
 rw[List.drop_eq_getElem_cons (by simpa using h)];rfl
theorem z5p (s:ByteArray) (k:Nat) (h:k < s.size):s.data.toList.take (k + 1)=s.data.toList.take k++[s[k]]:=by
 rw[List.take_succ_eq_append_getElem (by simpa using h)];rfl
theorem bs_len (s:ByteArray):s.data.toList.length=s.size:=by simp
theorem z6e (s:ByteArray) (a b:Nat):(s.extract a b).toList=(s.data.toList.drop a).take (b - a):=by
 rw[Lib.toList_data,Lib.extract_data]
theorem z6a (p:ByteArray) (m:Nat) (h:m < p.size):p[m] ∈ p.data.toList:=by
 have:p.data.toList[m]'(by simpa using h)=p[m]:=rfl;rw[← this];exact List.getElem_mem _

def bv (l:List UInt8):List Value:=l.map fun c=>Value.int .u8 c.toNat
theorem q7i (l:List UInt8) (c:UInt8):bv (l++[c])=bv l++[Value.int .u8 c.toNat]:=by simp[bv]
theorem q5j (l:List UInt8):(bv l).length=l.length:=by simp[bv]
theorem one_cell (v:Value) (h:v.oneCell'=true):∀ u ∈ [v],u.oneCell'=true:=by
 intro u hu;have:u=v:=by simpa using hu
 subst this;exact h

section
variable {P : Program}
theorem z0z (w:World) (src dst e:TypeId) (hs:P.underlying src=some (.slice e)) (he:P.underlying e=some (.int .u8)) (hd:P.underlying dst=some .string)
  {base n:Nat} {v:Value} (l:List UInt8) (hown:w.ownsRow base e 1 v n (bv l)):(convert src dst v).run P w=.ok (.string ⟨l.toArray⟩) w:=by
 have hl:l.length=n:=by have:=hown.1;rw[q5j] at this;omega
 rcases hown.2 with ⟨rfl,h0⟩ | ⟨g,cap,cur,rfl,_,hh,hnc,_,hcs,_⟩
 ·have:l=[]:=List.eq_nil_of_length_eq_zero (by omega)
  subst this;exact run_convert_bytes_nil w src e hs he 0 0 dst hd
 ·have hc:=hown.cells (g:=g) rfl
  rw[run_convert_bytes_arg w src e hs he g 0 n cap (l.map fun c=>(c.toNat:Int)) (by simpa using hl) ?_ dst hd]
  ·congr 2
   simp only [strOfNums,List.map_map]
   congr 2
   conv=>rhs;rw[← List.map_id l]
   apply List.map_congr_left
   intro a _;simp
  ·intro i hi
   have hil:i < l.length:=by omega
   have:=hc i (Value.int .u8 (l[i].toNat:Int)) (by simp[bv,List.getElem?_eq_getElem hil]);rw[Nat.zero_add];have e1:(⟨g,0,none⟩:Addr).add i=⟨g,i,none⟩:=by unfold Addr.add;split <;> simp_all
   rw[e1] at this;rw[this];simp[List.getD,List.getElem?_eq_getElem hil]
end
theorem below_grown {B:Nat} {a w w':World} {e:TypeId} {size n:Nat} {v:Value} {xs:List Value} (h:Below B a w) (hown:w.ownsRow B e size v n xs) (hg:w.grownBy w' v.ownBlock) (hB:B≤w.heap.size):Below B a w' :=
 h.grown hg hB (fun k hk=>(hown.lt k hk).1)
theorem below_drewN {B:Nat} {a w:World} (h:Below B a w) (n:Nat):Below B a (w.drewN n):=⟨h.os,h.tape,h.output,h.size,h.block⟩
def st (l:List UInt8):ByteArray:=⟨l.toArray⟩
theorem st_bs (s:ByteArray):st s.data.toList=s:=rfl
theorem z0b (l:List UInt8):(st l).data.toList=l:=rfl
theorem y9 (l:List UInt8):(st l).size=l.length:=rfl
theorem Z4 (s:ByteArray) (a b:Nat):s.extract a b=st ((s.data.toList.drop a).take (b - a)):=by
 rw[← st_bs (s.extract a b)]
 congr 1
 rw[← Lib.toList_data,z6e]
def Blk (w:World) (g:Nat) (t:TypeId) (cs:Array Value):Prop:=w.heap[g]? = some (.cells cs t (0,0))
section
variable {w w' : World} {g : Nat} {t : TypeId} {cs : Array Value}
theorem Blk.lt (h:Blk w g t cs):g < w.heap.size:=by
 rcases Nat.lt_or_ge g w.heap.size with hlt | hge
 ·exact hlt
 ·unfold Blk at h;rw[Array.getElem?_eq_none hge] at h;cases h
theorem Blk.cell (h:Blk w g t cs) (i:Nat):w.cell? ⟨g,i,none⟩=cs[i]?:=cell_of_row w g i cs t (0,0) h
theorem Blk.frozen (h:Blk w g t cs) (i:Nat):w.frozen? ⟨g,i,none⟩=false:=by
 unfold Blk at h;simp[World.frozen?,h]
theorem Blk.new (w:World) (t:TypeId) (cs:Array Value):Blk (w.alloc (.cells cs t)) w.heap.size t cs:=heap_alloc_new w _
theorem Blk.drew (h:Blk w g t cs):Blk w.drew g t cs:=h
theorem Blk.drewN (h:Blk w g t cs) (n:Nat):Blk (w.drewN n) g t cs:=h
theorem Blk.alloc (h:Blk w g t cs) (o:Obj):Blk (w.alloc o) g t cs:=(Below.heap_alloc w o g h.lt).trans h
theorem Blk.set_ (h:Blk w g t cs) (i:Nat) (u:Value):Blk (w.setCell ⟨g,i,none⟩ u) g t (cs.setIfInBounds i u):=by
 unfold Blk at h ⊢;simp[World.setCell,Array.getElem?_modify,h]
theorem Blk.far (h:Blk w g t cs) {p:Addr} (hp:g ≠ p.block) (u:Value):Blk (w.setCell p u) g t cs:=(Below.heap_setCell w p u g hp).trans h
theorem Blk.below {B:Nat} (h:Blk w g t cs) (hb:Below B w w') (hg:g < B):Blk w' g t cs:=(hb.block g hg).trans h
theorem Blk.grown {row:Option Nat} (h:Blk w g t cs) (hb:w.grownBy w' row) (hg:some g ≠ row):Blk w' g t cs:=(hb.block g h.lt hg).trans h
end
end Go.Proofs.YtagleefekmdldaaGreatDoor
