/- Contract of the program's shelf.Check: what is wrong with a shelf. Condition: ids of at most 1048576 letters. -/
import Derived.Test.YtjonkbdldebkiaaGreatDoorYWeB
import Derived.Maps.OwnOps
import Derived.Maps.Views
import Derived.Deep.RegionHeld3
import Derived.Test.YtjonkbdldebkiaaGreatDoorYMkClean5
import Derived.Test.YtjonkbdldebkiaaGreatDoorYMkByt1
set_option linter.unusedVariables false
set_option linter.unusedSimpArgs false
set_option maxHeartbeats 2000000
set_option maxRecDepth 100000
namespace Fd
def cntId (id:Bs) (l:List En):Nat:=(l.filter fun y=>y.id == id).length
theorem cnt_le (id:Bs) (l:List En):cntId id l≤l.length:=List.length_filter_le ..
end Fd
namespace Go.Proofs.YtjonkbdldebkiaaGreatDoor
open Go.RowKit Go.WideMaps Go.Maps
def Met (w:World) (Y:Nat) (l:List Fd.En):Prop:=∃ D:DataW Unit,w.ownsMap Tryz.prog 9 (plainElem Tryz.prog 3) Y l.length D∧IsMap D∧∀ id:List UInt8,D.atKey (.string id) (.lit (.int .i64 0))=.lit (.int .i64 (Fd.cntId id l:Nat))
theorem Met.frame {w w':World} {Y:Nat} {l:List Fd.En} (h:Met w Y l) (hb:Below w.heap.size w w'):Met w' Y l:=by
 obtain⟨D,h1,h2,h3⟩:=h;exact⟨D,h1.kept (row:=none) ⟨hb.os,hb.tape,hb.output,hb.size,fun k hk _=>hb.block k hk⟩ (by simp),h2,h3⟩
theorem Met.lt {w:World} {Y:Nat} {l:List Fd.En} (h:Met w Y l):Y < w.heap.size:=by
 obtain⟨D,h1,_⟩:=h;exact h1.lt
theorem Met.new (w:World):Met (w.alloc (.map #[] 0)) w.heap.size [] :=
 ⟨.map [],World.ownsMap_made _ _ _ _,isMap_empty,fun id=>rfl⟩
end Go.Proofs.YtjonkbdldebkiaaGreatDoor
namespace Mk
def page:Fo:=.node [112] [] [] (.node [] [] [97] .nil (.node [98,114] [] [] .nil .nil)) (.node [117,108] [] [] (.node [108,105] [] [] (.node [] [] [98] .nil .nil) (.node [108,105] [] [] (.node [] [] [99] .nil .nil) .nil)) .nil)
end Mk
namespace Go.Proofs.YtjonkbdldebkiaaGreatDoor
open Go.RowKit
theorem FoV.of_blk {w:World} {g cap:Nat} {K:Nat→Prop} {f:Mk.Fo} {cs:List Value} (hb:Blk w g 53 cs.toArray) (hK:K g) (hc:Y4 w K f cs) (hl:f.len≤maxLen):FoV w K (.slice (some ⟨g,0,none⟩) f.len cap) f :=
 ⟨_,cap,cs,rfl,.inr ⟨g,0,rfl,hK,fun i v q=>by rw[Nat.zero_add];exact(Blk.cell hb i).trans (by simpa using q)⟩,hc,hl⟩
def Y0 (n t:List UInt8) (vk:Value):List Value:=[.string (st n),.slice none 0 0,.string (st t),vk]
theorem Y4.one {w:World} {K:Nat→Prop} {n t:List UInt8} {k r:Mk.Fo} {ao:Option Addr} {cap:Nat} {ys:List Value} (hk:FoV w K (.slice ao k.len cap) k) (hr:Y4 w K r ys):Y4 w K (.node n [] t k r) (Y0 n t (.slice ao k.len cap)++ys):=by
 obtain⟨ao',cap',xs,h1,h2,h3,h4⟩:=hk;injection h1 with e1 e2 e3;subst e1;exact⟨.slice none 0 0,ao,cap,xs,ys,rfl,AtsV.nil _ _,h2,h4,h3,hr⟩
theorem FoV.nil0 (w:World) (K:Nat→Prop):FoV w K (.slice none (Mk.Fo.nil).len 0) .nil:=⟨none,0,[],rfl,.inl rfl,rfl,Nat.zero_le _⟩
theorem Y4.nil0 (w:World) (K:Nat→Prop):Y4 w K .nil []:=rfl
theorem page_mem {w:World} {s:Nat} {K:Nat→Prop} (hK:∀ i,i < 5→K (s + i))
  (h0:Blk w s 53 (Y0 [] [97] (.slice none 0 0)++(Y0 [98,114] [] (.slice none 0 0)++[])).toArray)
  (h1:Blk w (s + 1) 53 (Y0 [] [98] (.slice none 0 0)++[]).toArray)
  (h2:Blk w (s + 2) 53 (Y0 [] [99] (.slice none 0 0)++[]).toArray)
  (h3:Blk w (s + 3) 53 (Y0 [108,105] [] (.slice (some ⟨s + 1,0,none⟩) 1 1)++(Y0 [108,105] [] (.slice (some ⟨s + 2,0,none⟩) 1 1)++[])).toArray)
  (h4:Blk w (s + 4) 53 (Y0 [112] [] (.slice (some ⟨s,0,none⟩) 2 2)++(Y0 [117,108] [] (.slice (some ⟨s + 3,0,none⟩) 2 2)++[])).toArray) :
  FoV w K (.slice (some ⟨s + 4,0,none⟩) 2 2) Mk.page:=by
 have m1:1≤maxLen:=by decide
 have m2:2≤maxLen:=by decide
 have f0:FoV w K (.slice (some ⟨s,0,none⟩) 2 2) (.node [] [] [97] .nil (.node [98,114] [] [] .nil .nil)):=FoV.of_blk h0 (hK 0 (by decide)) (Y4.one (k:=.nil) (FoV.nil0 w K) (Y4.one (k:=.nil) (FoV.nil0 w K) (Y4.nil0 w K))) m2;have f1:FoV w K (.slice (some ⟨s + 1,0,none⟩) 1 1) (.node [] [] [98] .nil .nil):=FoV.of_blk h1 (hK 1 (by decide)) (Y4.one (k:=.nil) (FoV.nil0 w K) (Y4.nil0 w K)) m1;have f2:FoV w K (.slice (some ⟨s + 2,0,none⟩) 1 1) (.node [] [] [99] .nil .nil):=FoV.of_blk h2 (hK 2 (by decide)) (Y4.one (k:=.nil) (FoV.nil0 w K) (Y4.nil0 w K)) m1;have f3:FoV w K (.slice (some ⟨s + 3,0,none⟩) 2 2) (.node [108,105] [] [] (.node [] [] [98] .nil .nil) (.node [108,105] [] [] (.node [] [] [99] .nil .nil) .nil)):=FoV.of_blk h3 (hK 3 (by decide)) (Y4.one (k:=.node [] [] [98] .nil .nil) f1 (Y4.one (k:=.node [] [] [99] .nil .nil) f2 (Y4.nil0 w K))) m2;exact FoV.of_blk h4 (hK 4 (by decide)) (Y4.one (k:=.node [] [] [97] .nil (.node [98,114] [] [] .nil .nil)) f0 (Y4.one (k:=.node [108,105] [] [] (.node [] [] [98] .nil .nil) (.node [108,105] [] [] (.node [] [] [99] .nil .nil) .nil)) f3 (Y4.nil0 w K))) m2
theorem j06 (w:World) :
  Calls Tryz.prog 53 #[] w fun e w'=>∃ v,e=.returned v∧FoV w' (fun b=>w.heap.size≤b∧b < w'.heap.size) v Mk.page∧Below w.heap.size w w':=by
 go_enter Tryz.func53,Tryz.ntmps53;go_wp2_with fail;go_ret;refine⟨_,rfl,?_,?_⟩
 ·have b0:=Blk.new w 53 (Y0 [] [97] (.slice none 0 0)++(Y0 [98,114] [] (.slice none 0 0)++[])).toArray
  have b1:=Blk.new (w.alloc (.cells (Y0 [] [97] (.slice none 0 0)++(Y0 [98,114] [] (.slice none 0 0)++[])).toArray 53)) 53 (Y0 [] [98] (.slice none 0 0)++[]).toArray;have b2:=Blk.new ((w.alloc (.cells (Y0 [] [97] (.slice none 0 0)++(Y0 [98,114] [] (.slice none 0 0)++[])).toArray 53)).alloc (.cells (Y0 [] [98] (.slice none 0 0)++[]).toArray 53)) 53 (Y0 [] [99] (.slice none 0 0)++[]).toArray;have b3:=Blk.new (((w.alloc (.cells (Y0 [] [97] (.slice none 0 0)++(Y0 [98,114] [] (.slice none 0 0)++[])).toArray 53)).alloc (.cells (Y0 [] [98] (.slice none 0 0)++[]).toArray 53)).alloc (.cells (Y0 [] [99] (.slice none 0 0)++[]).toArray 53)) 53 (Y0 [108,105] [] (.slice (some ⟨w.heap.size + 1,0,none⟩) 1 1)++(Y0 [108,105] [] (.slice (some ⟨w.heap.size + 2,0,none⟩) 1 1)++[])).toArray;have b4:=Blk.new ((((w.alloc (.cells (Y0 [] [97] (.slice none 0 0)++(Y0 [98,114] [] (.slice none 0 0)++[])).toArray 53)).alloc (.cells (Y0 [] [98] (.slice none 0 0)++[]).toArray 53)).alloc (.cells (Y0 [] [99] (.slice none 0 0)++[]).toArray 53)).alloc (.cells (Y0 [108,105] [] (.slice (some ⟨w.heap.size + 1,0,none⟩) 1 1)++(Y0 [108,105] [] (.slice (some ⟨w.heap.size + 2,0,none⟩) 1 1)++[])).toArray 53)) 53 (Y0 [112] [] (.slice (some ⟨w.heap.size,0,none⟩) 2 2)++(Y0 [117,108] [] (.slice (some ⟨w.heap.size + 3,0,none⟩) 2 2)++[])).toArray;simp only [World.size_alloc] at b1 b2 b3 b4;exact page_mem (fun i hi=>⟨by omega,by simp only [World.size_alloc];omega⟩) (Blk.alloc (Blk.alloc (Blk.alloc (Blk.alloc b0 _) _) _) _) (Blk.alloc (Blk.alloc (Blk.alloc b1 _) _) _) (Blk.alloc (Blk.alloc b2 _) _) (Blk.alloc b3 _) b4
 ·exact(((((Below.refl _ w).alloc (Nat.le_refl _) _).alloc (by simp) _).alloc (by simp;omega) _).alloc (by simp;omega) _).alloc (by simp;omega) _
end Go.Proofs.YtjonkbdldebkiaaGreatDoor
