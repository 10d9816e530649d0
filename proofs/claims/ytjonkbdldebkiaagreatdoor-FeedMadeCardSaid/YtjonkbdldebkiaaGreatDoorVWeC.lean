/- Contract of the program's shelf.Check: what is wrong with a shelf. Condition: ids of at most 1048576 letters. -/
import Derived.Test.YtjonkbdldebkiaaGreatDoorVWeB
import Derived.Maps.OwnOps
import Derived.Maps.Views
import Derived.Deep.RegionHeld3
import Derived.Test.YtjonkbdldebkiaaGreatDoorVMkHtml
import Derived.Test.YtjonkbdldebkiaaGreatDoorVWpC
import Derived.Test.YtjonkbdldebkiaaGreatDoorVMkSame
import Derived.Test.YtjonkbdldebkiaaGreatDoorVUrlPlain
import Derived.Test.YtjonkbdldebkiaaGreatDoorVMkRep6
set_option linter.unusedVariables false
set_option linter.unusedSimpArgs false
set_option maxHeartbeats 4000000
set_option maxRecDepth 100000
namespace Fd
def z94 (id:Bs) (l:List En):Nat:=(l.filter fun y=>y.id == id).length
theorem cnt_le (id:Bs) (l:List En):z94 id l≤l.length:=List.length_filter_le ..
theorem q4h {x:En} (h:z03 x=0):0≤x.at_∧x.at_≤4102444799:=by
 unfold z03 at h
 by_cases q1:x.id=[]
 ·rw[if_pos q1] at h;cases h
 rw[if_neg q1] at h
 by_cases q2:60 < x.id.length∨3000 < x.ti.length∨3000 < x.li.length∨3000 < x.ht.length
 ·rw[if_pos q2] at h;cases h
 rw[if_neg q2] at h
 by_cases q3:x.at_ < 0∨4102444799 < x.at_
 ·rw[if_pos q3] at h;cases h
 omega
end Fd
namespace Go.Proofs.YtjonkbdldebkiaaGreatDoor
open Go.Proofs.Tryz Go.RowKit Go.WideMaps Go.Maps
def Met (w:World) (Y:Nat) (l:List Fd.En):Prop:=∃ D:DataW Unit,w.ownsMap prog 9 (plainElem prog 3) Y l.length D∧IsMap D∧∀ id:List UInt8,D.atKey (.string id) (.lit (.int .i64 0))=.lit (.int .i64 (Fd.z94 id l:Nat))
theorem Met.frame {w w':World} {Y:Nat} {l:List Fd.En} (h:Met w Y l) (hb:Below w.heap.size w w'):Met w' Y l:=by
 obtain⟨D,h1,h2,h3⟩:=h;exact⟨D,h1.kept (row:=none) ⟨hb.os,hb.tape,hb.output,hb.size,fun k hk _=>hb.block k hk⟩ (by simp),h2,h3⟩
theorem Met.lt {w:World} {Y:Nat} {l:List Fd.En} (h:Met w Y l):Y < w.heap.size:=by
 obtain⟨D,h1,_⟩:=h;exact h1.lt
theorem Met.new (w:World):Met (w.alloc (.map #[] 0)) w.heap.size [] :=
 ⟨.map [],World.ownsMap_made _ _ _ _,isMap_empty,fun id=>rfl⟩
end Go.Proofs.YtjonkbdldebkiaaGreatDoor
namespace Mk
def s0:Bs:=[60,115,101,99,116,105,111,110,62,60,112,32,111,110,99,108,105,99,107,61,120,62,97,60,115,99,114,105,112,116,62,98,60,47,115,99,114,105,112,116,62,60,97,32,104,114,101,102,61,99,62,100,60,47,97,62,60,97,32,104,114,101,102,61,39,106,97,118,97,115,99,114,105,112,116,58,101,39,62,102,60,47,97,62,60,105,109,103,62,103]
def short (s:Bs):Bool:=decide (s.length < 32) && s.all fun b=>(reps.lookup b).isNone
end Mk
namespace Go.Proofs.YtjonkbdldebkiaaGreatDoor
open Go.RowKit
end Go.Proofs.YtjonkbdldebkiaaGreatDoor
namespace Go.Proofs.YtjonkbdldebkiaaGreatDoor
open Go.Proofs.Tryz Go.RowKit
theorem j3m (base s:List UInt8) (hs:s.length≤3000):∀ t ∈ Mk.flat (Mk.clean base (Mk.build (Mk.toks s))),z8a t:=by
 intro t ht;have h1:=Mk.z8v s;have h2:=Mk.z6t (Mk.toks s);have h3:=Mk.q2p base (Mk.build (Mk.toks s));obtain⟨h4,h5⟩:=Mk.q9j _ t ht;exact⟨fun _=>z8u _ (by omega),fun a ha=>z8u _ (by have:=h5 a ha;omega)⟩
theorem j1j (base s:List UInt8) (w:World) (hg:Gl w) (hb:base.length≤3000) (hs:s.length≤3000) :
  Calls prog 19 #[.string (st base),.string (st s)] w fun e w'=>e=.returned (.tuple #[.string (st (Mk.html base s)),.int .i64 0])∧Below w.heap.size w w' :=
 cl_Html base s w hg hb (Mk.fits base s hs) (j3m base s hs)
theorem q5u (base s:List UInt8) (w:World) (h:3000 < base.length∨3000 < s.length) :
  Calls prog 19 #[.string (st base),.string (st s)] w fun e w'=>e=.returned (.tuple #[.string (st []),.int .i64 2])∧w'=w:=by
 by_cases h1:3000 < base.length
 ·have h2:3000 < (st base).size:=by rw[Z4];omega
  clear h h1;go_enter func19,ntmps19;go_wp2_with fail;go_ret2;exact⟨rfl,rfl⟩
 ·have h2:¬ 3000 < (st base).size:=by rw[Z4];omega
  have h3:3000 < (st s).size:=by rw[Z4];omega
  clear h h1;go_enter func19,ntmps19;go_wp2_with fail;go_ret2;exact⟨rfl,rfl⟩
end Go.Proofs.YtjonkbdldebkiaaGreatDoor
