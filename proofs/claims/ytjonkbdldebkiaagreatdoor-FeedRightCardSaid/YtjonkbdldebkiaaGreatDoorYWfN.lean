/- Contract of slices.IndexFunc over nodes, for whatever closure only computes. Condition: a tree of at most 33554432 nodes, attributes and letters. -/
import Derived.Test.YtjonkbdldebkiaaGreatDoorYMkTree2
import Derived.Test.YtjonkbdldebkiaaGreatDoorYMkStay3
set_option linter.unusedVariables false
set_option linter.unusedSimpArgs false
set_option maxHeartbeats 2000000
namespace Fd
def z7w (q:Nd→Bool):Mk.Fo→Option Nd
 | .nil=>none
 | .node n a t k r=>if q ⟨n,a,t,k⟩ then some ⟨n,a,t,k⟩ else z7w q r
theorem q78 (title:Bs) (p:Nd→Bool):∀ f:Mk.Fo,z3g title p f=z7w (fun x=>decide (x.name=title) && p x) f
 | .nil=>rfl
 | .node n a t k r=>by
  unfold z3g z7w;rw[q78 title p r]
end Fd
namespace Go.Proofs.YtjonkbdldebkiaaGreatDoor
open Go.RowKit
def q55 (g:FuncId) (lb:Array Value) (q:Fd.Nd→Bool) (f:Mk.Fo) (K:Nat→Prop) (w:World):Prop :=
 ∀ w1,Below w.heap.size w w1→∀ j n a t kk r,f.drop j=.node n a t kk r→∀ va vk,AtsV w1 K va a→FoV w1 K vk kk→Calls Tryz.prog g (#[V4 n va t vk]++lb) w1 fun e w'=>e=.returned (.bool (q ⟨n,a,t,kk⟩))∧Below w1.heap.size w1 w'
theorem q6k (g:FuncId) (lb:Array Value) (q:Fd.Nd→Bool) (eg:∀ args w,(callFunc g args).run Tryz.prog w=.ok (.enter g args) w) (f:Mk.Fo) (v:Value) (K:Nat→Prop) (w:World) (hv:FoV w K v f) (hK:∀ b,K b→b < w.heap.size) (hf:f.bulk≤33554432) (hq:q55 g lb q f K w) :
  Calls Tryz.prog 116 #[v,.func (.func g) #[] lb] w fun e w'=>Below w.heap.size w w'∧∃ i:Int,e=.returned (.int .i64 i)∧((i = -1∧Fd.z7w q f=none)∨∃ j n a t kk r,i=((j:Nat):Int)∧f.drop j=.node n a t kk r∧Fd.z7w q f=some ⟨n,a,t,kk⟩):=by
 obtain⟨b,o,cap,hv1,hlen,hat⟩:=hv.at_
 have HQ:=Lib.hid hq;have HAT:=Lib.hid hat
 have hfl:=Mk.Fo.z0k f;clear hq hat
 rcases hv1 with ⟨hv1,hKb⟩ | ⟨ao,hv1,hnil⟩
 ·have hb:=hK b hKb
  subst hv1;go_enter Tryz.func116,Tryz.ntmps116;go_wp2_with fail
  go_loopw [8] (fun i wr=>∃ j:Nat,j≤f.len∧i=.int .i64 j∧Hid (Fd.z7w q f=Fd.z7w q (f.drop j))∧Hid (Below w.heap.size w wr)) (fun i _=>f.len - (intOf i).toNat)
  case atStart=>exact⟨0,Nat.zero_le _,rfl,by show _=_;rw[Mk.Fo.drop_zero],Below.refl _ _⟩
  case round =>
   obtain⟨j,hj,rfl,HA,BL⟩:=hrel
   by_cases hlt:j < f.len
   ·obtain⟨n,a,t,kk,r,hd,hd1⟩:=Mk.Fo.z3a f j hlt
    obtain⟨va,vk,c0,c1,c2,c3,hva,hvk⟩:=HAT.out j n a t kk r hd;rw[← BL.out.cell (p:=⟨b,_,none⟩) hb] at c0 c1 c2 c3;obtain⟨aoa,capa,hva1,_⟩:=id hva;obtain⟨aok,capk,xsk,hvk1,_⟩:=id hvk;subst hva1;subst hvk1;have hcall:=HQ.out wr BL.out j n a t kk r hd _ _ (hva.below hK BL.out) (hvk.below hK BL.out);have HD:Hid (Fd.z7w q f=if q ⟨n,a,t,kk⟩ then some ⟨n,a,t,kk⟩ else Fd.z7w q (f.drop (j + 1))):=by show _=_;rw[HA.out,hd,hd1];rfl
    have HDJ:=Lib.hid hd;generalize q ⟨n,a,t,kk⟩=bb at hcall HD;unfold V4 at hcall;have HCALL:=Lib.hid hcall;have hji:(j:Int) < f.len:=by omega
    clear hcall HA HAT hd hd1 hva hvk
    cases bb with
    | true =>
     go_wp2_with fail;refine HCALL.out.mono ?_;rintro e w1 ⟨rfl,hb1⟩;have BL1:=Lib.hid (BL.out.trans (hb1.mono BL.out.size));clear hb1;go_wp2_with fail;go_ret;exact⟨BL1.out,j,rfl,.inr ⟨j,n,a,t,kk,r,rfl,HDJ.out,by rw[HD.out];rfl⟩⟩
    | false =>
     go_wp2_with fail;refine HCALL.out.mono ?_;rintro e w1 ⟨rfl,hb1⟩;have BL1:=Lib.hid (BL.out.trans (hb1.mono BL.out.size));clear hb1;go_wp2_with fail;go_roundw
     case rel=>exact⟨j + 1,by omega,by go_num,by show _=_;rw[HD.out];rfl,BL1⟩
     case measure=>simp[intOf];omega
   ·have hje:j=f.len:=by omega
    have HN:Hid (Fd.z7w q f=none):=by show _=_;rw[HA.out,hje,Mk.Fo.z2q];rfl
    have hji:¬ (j:Int) < f.len:=by omega
    clear HA HAT hje;go_wp2_with fail;go_ret;exact⟨BL.out,-1,rfl,.inl ⟨rfl,HN.out⟩⟩
 ·subst hnil
  subst hv1;clear HAT hK;go_enter Tryz.func116,Tryz.ntmps116;go_wp2_with fail
  go_loopw [8] (fun i wr=>i=.int .i64 0∧wr=w) (fun _ _=>0)
  case atStart=>exact⟨rfl,rfl⟩
  case round =>
   obtain⟨rfl,rfl⟩:=hrel;go_wp2_with fail;go_ret;exact⟨Below.refl _ _,-1,rfl,.inl ⟨rfl,rfl⟩⟩
end Go.Proofs.YtjonkbdldebkiaaGreatDoor
namespace Fd
def apartB (n:Bs):Bool:=[[112],[108,105],[98,108,111,99,107,113,117,111,116,101],[117,108],[111,108]].contains n
def tellF:Mk.Fo→Bs
 | .nil=>[]
 | .node n _ t k r=>t++((if Mk.z09 n || apartB n then [32] else [])++(tellF k++((if apartB n then [32] else [])++tellF r)))
def q5v:Bs→Bs→List Bs
 | f,[]=>if f=[] then [] else [f]
 | f,c :: t=>if Mk.white c then (if f=[] then q5v [] t else f :: q5v [] t) else q5v (f++[c]) t
def fieldsB (s:Bs):List Bs:=q5v [] s
def joinB:List Bs→Bs
 | []=>[]
 | [x]=>x
 | x :: y :: l=>x++([32]++joinB (y :: l))
def toldB (s:Bs):Bs:=joinB (fieldsB (tellF (Mk.build (Mk.toks s))))
def lnOf (T:Bs→Bs) (x:En):Mk.Ln:=⟨x.ti,x.li,if x.at_=0 then [] else [32]++j4e x.at_,T x.ht⟩
def lineE (T:Bs→Bs) (x:En):Bs:=Mk.lineB (lnOf T x)
def pageS (T:Bs→Bs) (s:Sh):Bs:=[60,117,108,62]++s.es.flatMap (lineE T)++[60,47,117,108,62]
theorem pageS_eq (T:Bs→Bs) (s:Sh):pageS T s=Mk.j5f (s.es.map (lnOf T)):=by
 unfold pageS Mk.j5f;rw[List.flatMap_map];rfl
theorem en_link {x:En} (h:z0r x=0):x.li=[]∨Mk.V3 x.li=true:=by
 unfold z0r at h
 by_cases q1:x.id=[]
 ·rw[if_pos q1] at h;cases h
 rw[if_neg q1] at h
 by_cases q2:60 < x.id.length∨3000 < x.ti.length∨3000 < x.li.length∨3000 < x.ht.length
 ·rw[if_pos q2] at h;cases h
 rw[if_neg q2] at h
 by_cases q3:x.at_ < 0∨4102444799 < x.at_
 ·rw[if_pos q3] at h;cases h
 rw[if_neg q3] at h
 by_cases q4:(x.li ≠ []∧Mg.isSafe x.li=false)∨z5g x.ht=false
 ·rw[if_pos q4] at h;cases h
 by_cases hl:x.li=[]
 ·exact .inl hl
 ·right
  unfold Mk.V3;rw[Bool.and_eq_true];refine⟨?_,decide_eq_true (by omega)⟩
  cases hs:Mg.isSafe x.li with
  | true=>rfl
  | false=>exact absurd (.inl ⟨hl,hs⟩) q4
theorem q4m (T:Bs→Bs) (s:Sh) (h:q9n s=0):Mk.html [] (pageS T s)=pageS T s:=by
 obtain⟨_,_,hr,_⟩:=(q9o s).1 h;rw[pageS_eq];refine Mk.j9a _ ?_ ?_
 ·intro x hx
  obtain⟨y,hy,rfl⟩:=List.mem_map.1 hx;show Mk.put (if y.at_=0 then [] else [32]++j4e y.at_)=(if y.at_=0 then [] else [32]++j4e y.at_)
  split
  ·rfl
  ·rw[Mk.q4n,put_date];rfl
 ·intro x hx
  obtain⟨y,hy,rfl⟩:=List.mem_map.1 hx;exact en_link (hr.1 y hy)
end Fd
