/- How a walk reads a tree, node by node; contract of the program's Size. Condition: a tree of at most 33554432 nodes and letters. -/
import Derived.Test.YteidgdpaolieaaaGreatDoorYMkTok8
import Derived.Test.YteidgdpaolieaaaGreatDoorYMkTok2
import Derived.Test.YteidgdpaolieaaaGreatDoorYMkTok5
import Derived.RegionTactic
import Derived.ChangeAlike
set_option linter.unusedVariables false
set_option linter.unusedSimpArgs false
namespace Mk
namespace Fo
def drop : Fo→Nat→Fo
 | f,0=>f
 | nil,_ + 1=>nil
 | node _ _ _ _ r,k + 1=>drop r k
def atB (l : List At) : Nat:=(l.map fun a=>1 + a.n.length + a.v.length).sum
/-- how many nodes, attributes and letters. -/
def bulk : Fo→Nat
 | nil=>0
 | node n a t k r=>1 + n.length + t.length + atB a + bulk k + bulk r
theorem drop_zero (f : Fo) : drop f 0 = f:=by cases f <;> rfl
theorem drop_len : ∀ (f : Fo),drop f f.len = nil
 | nil=>rfl
 | node _ _ _ _ r=>by show drop r r.len = nil;exact drop_len r
theorem drop_lt : ∀ (f : Fo) (k : Nat),k < f.len→∃ n a t kk r,drop f k = node n a t kk r∧drop f (k + 1) = r
 | nil,k,h=>absurd h (Nat.not_lt_zero _)
 | node n a t kk r,0,_=>⟨n,a,t,kk,r,rfl,by show drop r 0 = r;exact drop_zero r⟩
 | node n a t kk r,k + 1,h=>by
  obtain ⟨n',a',t',k',r',h1,h2⟩:=drop_lt r k (by simp [len] at h;omega)
  exact ⟨n',a',t',k',r',h1,h2⟩
theorem drop_bulk : ∀ (f : Fo) (k : Nat),bulk (drop f k)≤bulk f
 | f,0=>by rw [drop_zero];exact Nat.le_refl _
 | nil,_ + 1=>Nat.le_refl _
 | node n a t kk r,k + 1=>by
  have:=drop_bulk r k
  show bulk (drop r k)≤1 + n.length + t.length + atB a + bulk kk + bulk r
  omega
theorem len_bulk : ∀ f : Fo,f.len≤bulk f
 | nil=>Nat.le_refl _
 | node n a t kk r=>by have:=len_bulk r;show r.len + 1≤1 + n.length + t.length + atB a + bulk kk + bulk r;omega
end Fo
theorem atB_len (l : List At) : l.length≤Fo.atB l:=by
 induction l with
 | nil=>exact Nat.le_refl _
 | cons a t ih=>simp [Fo.atB] at ih ⊢;omega
theorem atB_mem {l : List At} {a : At} (h : a ∈ l) : 1 + a.n.length + a.v.length≤Fo.atB l:=by
 induction l with
 | nil=>cases h
 | cons b t ih =>
  rcases List.mem_cons.1 h with e | e
  ·subst e;simp [Fo.atB]
  ·have:=ih e;simp [Fo.atB] at this ⊢;omega
theorem sizeF_text (m : Nat) (a : List At) (t : Bs) (k r : Fo) : sizeF m (.node [] a t k r) = ((sizeF m r).1 + 1,(sizeF m r).2):=by cases m <;> rfl
theorem sizeF_zero {n : Bs} (hn : n ≠ []) (a : List At) (t : Bs) (k r : Fo) : sizeF 0 (.node n a t k r) = ((sizeF 0 r).1 + 1,max 1 (sizeF 0 r).2):=by
 rw [sizeF];simp [hn]
theorem sizeF_succ {n : Bs} (hn : n ≠ []) (m : Nat) (a : List At) (t : Bs) (k r : Fo) : sizeF (m + 1) (.node n a t k r) = ((sizeF (m + 1) r).1 + 1 + (sizeF m k).1,max (max 1 ((sizeF m k).2 + 1)) (sizeF (m + 1) r).2):=by
 rw [sizeF];simp [hn]
theorem sizeF_len (m : Nat) : ∀ f : Fo,f.len≤(sizeF m f).1
 | .nil=>Nat.le_refl _
 | .node n a t k r=>by
  have:=sizeF_len m r
  unfold sizeF
  simp only [Fo.len]
  split
  ·exact Nat.succ_le_succ this
  ·cases m with
   | zero=>exact Nat.succ_le_succ this
   | succ m=>simp only;omega
theorem sizeF_bulk : ∀ (m : Nat) (f : Fo),(sizeF m f).1≤Fo.bulk f∧(sizeF m f).2≤m + 1:=by
 intro m
 induction m with
 | zero =>
  intro f
  induction f with
  | nil=>exact ⟨Nat.le_refl _,by simp [sizeF]⟩
  | node n a t k r _ ihr =>
   unfold sizeF Fo.bulk
   simp only
   split
   ·exact ⟨by simp only;omega,ihr.2⟩
   ·exact ⟨by simp only;omega,by simp only;omega⟩
 | succ m ihm =>
  intro f
  induction f with
  | nil=>exact ⟨Nat.le_refl _,by simp [sizeF]⟩
  | node n a t k r _ ihr =>
   have hk:=ihm k
   unfold sizeF Fo.bulk
   simp only
   split
   ·exact ⟨by simp only;omega,ihr.2⟩
   ·exact ⟨by simp only;omega,by simp only;omega⟩
end Mk
namespace Go.Proofs.YteidgdpaolieaaaGreatDoor
open Go.RowKit
theorem FCells.at_ {w : World} {K : Nat→Prop} : ∀ {f : Mk.Fo} {xs : List Value},FCells w K f xs→∀ {k : Nat} {n : List UInt8} {a : List Mk.At} {t : List UInt8} {kk r : Mk.Fo},f.drop k = .node n a t kk r →
  ∃ va ao cap zs,xs[4 * k]? = some (.string (st n))∧xs[4 * k + 1]? = some va∧xs[4 * k + 2]? = some (.string (st t))∧xs[4 * k + 3]? = some (.slice ao kk.len cap)∧AtsV w K va a∧RowAt w K ao zs∧kk.len≤maxLen∧FCells w K kk zs
 | .nil,_,_,k,_,_,_,_,_,hd=>by cases k <;> cases hd
 | .node n' a' t' k' r',xs,h,0,n,a,t,kk,r,hd=>by
  obtain ⟨va,ao,cap,zs,ys,h1,h2,h3,h4,h5,h6⟩:=h
  rw [Mk.Fo.drop_zero] at hd
  injection hd with e1 e2 e3 e4 e5
  subst e1;subst e2;subst e3;subst e4;subst e5
  exact ⟨va,ao,cap,zs,by rw [h1];rfl,by rw [h1];rfl,by rw [h1];rfl,by rw [h1];rfl,h2,h3,h4,h5⟩
 | .node n' a' t' k' r',xs,h,k + 1,n,a,t,kk,r,hd=>by
  obtain ⟨va',ao',cap',zs',ys,h1,_,_,_,_,h6⟩:=h
  have hd' : r'.drop k = .node n a t kk r:=hd
  obtain ⟨va,ao,cap,zs,g1,g2,g3,g4,g5⟩:=FCells.at_ h6 hd'
  have sh : ∀ i v,ys[i]? = some v→xs[i + 4]? = some v:=by
   intro i v hi
   rw [h1,List.getElem?_append_right (by simp)]
   simpa using hi
  exact ⟨va,ao,cap,zs,by rw [show 4 * (k + 1) = 4 * k + 4 by omega];exact sh _ _ g1,by rw [show 4 * (k + 1) + 1 = 4 * k + 1 + 4 by omega];exact sh _ _ g2,by rw [show 4 * (k + 1) + 2 = 4 * k + 2 + 4 by omega];exact sh _ _ g3,by rw [show 4 * (k + 1) + 3 = 4 * k + 3 + 4 by omega];exact sh _ _ g4,g5⟩
/-- where a node lies. -/
theorem FoV.at_ {w : World} {K : Nat→Prop} {v : Value} {f : Mk.Fo} (h : FoV w K v f) : ∃ g o cap,((v = .slice (some ⟨g,o,none⟩) f.len cap∧K g) ∨ ∃ ao,v = .slice ao 0 cap∧f = .nil)∧f.len≤maxLen ∧
  ∀ k n a t kk r,f.drop k = .node n a t kk r→∃ va vk,w.cell? ⟨g,o + k * 4,none⟩ = some (.string (st n))∧w.cell? ⟨g,o + k * 4 + 1,none⟩ = some va∧w.cell? ⟨g,o + k * 4 + 2,none⟩ = some (.string (st t))∧w.cell? ⟨g,o + k * 4 + 3,none⟩ = some vk∧AtsV w K va a∧FoV w K vk kk:=by
 obtain ⟨ao,cap,xs,h1,h2,h3,h4⟩:=h
 rcases h2 with h2 | ⟨g,o,e1,e2,e3⟩
 ·have hl:=h3.length
  rw [h2] at hl
  have : f = .nil:=by
   cases f with
   | nil=>rfl
   | node _ _ _ _ _=>simp [Mk.Fo.len] at hl
  subst this
  exact ⟨0,0,cap,.inr ⟨ao,h1,rfl⟩,h4,fun k n a t kk r hd=>by cases k <;> cases hd⟩
 ·refine ⟨g,o,cap,.inl ⟨by rw [h1,e1],e2⟩,h4,fun k n a t kk r hd=>?_⟩
  obtain ⟨va,ao',cap',zs,g1,g2,g3,g4,g5,g6,g7,g8⟩:=h3.at_ hd
  rw [Nat.mul_comm k 4]
  exact ⟨va,_,e3 _ _ g1,by rw [Nat.add_assoc];exact e3 _ _ g2,by rw [Nat.add_assoc];exact e3 _ _ g3,by rw [Nat.add_assoc];exact e3 _ _ g4,g5,ao',cap',zs,rfl,g6,g8,g7⟩
/-- a tree that lies below stays. -/
theorem FoV.below {w w' : World} {K : Nat→Prop} {v : Value} {f : Mk.Fo} {B : Nat} (h : FoV w K v f) (hK : ∀ b,K b→b < B) (hb : Below B w w') : FoV w' K v f:=h.frame fun b hk=>⟨hk,hb.block b (hK b hk)⟩
theorem AtsV.below {w w' : World} {K : Nat→Prop} {v : Value} {f : List Mk.At} {B : Nat} (h : AtsV w K v f) (hK : ∀ b,K b→b < B) (hb : Below B w w') : AtsV w' K v f:=h.frame fun b hk=>⟨hk,hb.block b (hK b hk)⟩
theorem StrsV.below {w w' : World} {K : Nat→Prop} {v : Value} {f : List (List UInt8)} {B : Nat} (h : StrsV w K v f) (hK : ∀ b,K b→b < B) (hb : Below B w w') : StrsV w' K v f:=h.frame fun b hk=>⟨hk,hb.block b (hK b hk)⟩

set_option maxHeartbeats 4000000 in
set_option maxRecDepth 100000 in
theorem tr_Size (N : Nat) : ∀ (f : Mk.Fo) (m : Nat) (v : Value) (K : Nat→Prop) (w : World),f.bulk < N→f.bulk≤33554432→m≤8→FoV w K v f→(∀ b,K b→b < w.heap.size) →
  Calls Tryz.prog 44 #[v,.int .i64 m] w fun e w'=>e = .returned (.tuple #[.int .i64 (Mk.sizeF m f).1,.int .i64 (Mk.sizeF m f).2])∧Below w.heap.size w w':=by
 induction N with
 | zero =>
  intro f m v K w hN
  omega
 | succ N ih =>
  intro f m v K w hN hf hm hv hK
  obtain ⟨g,o,cap,hv1,hlen,hat⟩:=hv.at_
  have HAT:=Lib.hid hat
  clear hat
  have hfl:=Mk.Fo.len_bulk f
  rcases hv1 with ⟨hv1,hKg⟩ | ⟨ao,hv1,hnil⟩
  ·have hgl:=hK g hKg
   subst hv1
   go_enter Tryz.func44,Tryz.ntmps44
   go_wp2_with fail
   go_loopw [6,7,16] (fun a b i wr=>∃ k many deep : Nat,k≤f.len∧i = .int .i64 k∧a = .int .i64 many∧b = .int .i64 deep∧many + (Mk.sizeF m (f.drop k)).1 = (Mk.sizeF m f).1 + (f.drop k).len∧max deep (Mk.sizeF m (f.drop k)).2 = (Mk.sizeF m f).2∧Hid (Below w.heap.size w wr)) (fun _ _ i _=>f.len - (intOf i).toNat)
   case atStart=>exact ⟨0,f.len,0,Nat.zero_le _,rfl,rfl,rfl,by rw [Mk.Fo.drop_zero,Nat.add_comm],by rw [Mk.Fo.drop_zero,Nat.zero_max],Below.refl _ _⟩
   case round =>
    obtain ⟨k,many,deep,hk,rfl,rfl,rfl,h1,h2,BL⟩:=hrel
    have hsz:=BL.out.size
    by_cases hlt : k < f.len
    ·obtain ⟨n,a,t,kk,r,hd,hd1⟩:=Mk.Fo.drop_lt f k hlt
     obtain ⟨va,vk,c0,c1,c2,c3,hva,hvk⟩:=HAT.out k n a t kk r hd
     rw [← BL.out.cell (p:=⟨g,_,none⟩) hgl] at c0 c1 c2 c3
     have hdb:=Mk.Fo.drop_bulk f k
     rw [hd] at hdb h1 h2
     have hkb : kk.bulk + r.bulk + 1≤f.bulk:=by
      have e : (Mk.Fo.node n a t kk r).bulk = 1 + n.length + t.length + Mk.Fo.atB a + kk.bulk + r.bulk:=rfl
      omega
     have hrl:=Mk.Fo.len_bulk r
     have hlr : (Mk.Fo.node n a t kk r).len = r.len + 1:=rfl
     obtain ⟨aoa,capa,hva1,_⟩:=hva
     obtain ⟨aok,capk,xsk,hvk1,hvk2⟩:=hvk
     subst hva1
     subst hvk1
     have hst : ∀ l : List UInt8,(st l).toList = l:=fun l=>Lib.toList_data _
     have hsb:=Mk.sizeF_bulk m f
     have hal:=(Below.refl wr.heap.size wr).alloc (Nat.le_refl _) (.cells #[.string (st n),.slice aoa a.length capa,.string (st t),.slice aok kk.len capk] 52)
     have BL1:=Lib.hid (BL.out.trans (hal.mono hsz))
     by_cases hn : n = []
     ·subst hn
      have hst0 : (st []).toList = []:=Lib.toList_data _
      rw [Mk.sizeF_text] at h1 h2
      simp only at h1 h2
      clear HAT hal hd
      go_wp2_with fail
      go_roundw
      case rel=>exact ⟨k + 1,many,deep,by omega,by go_num,rfl,rfl,by rw [hd1];omega,by rw [hd1];exact h2,BL1⟩
      case measure=>simp [intOf];omega
     ·have he : n.isEmpty = false:=by
       cases n with
       | nil=>exact absurd rfl hn
       | cons _ _=>rfl
      have hmx : max (deep : Int) 1 = ((max deep 1 : Nat) : Int):=by omega
      by_cases hm0 : m = 0
      ·subst hm0
       rw [Mk.sizeF_zero hn] at h1 h2
       simp only at h1 h2
       clear HAT hal hd
       go_wp2_with fail
       go_roundw
       case rel=>exact ⟨k + 1,many,max deep 1,by omega,by go_num,rfl,by rw [← hmx],by rw [hd1];omega,by rw [hd1];omega,BL1⟩
       case measure=>simp [intOf];omega
      ·obtain ⟨m',hm1⟩ : ∃ m',m = m' + 1:=⟨m - 1,by omega⟩
       have hss:=Mk.sizeF_succ hn m' a t kk r
       rw [← hm1] at hss
       rw [hss] at h1 h2
       have hmm : (m : Int) - 1 = m':=by omega
       have hmi : ((m : Int) == 0) = false:=by rw [beq_eq_false_iff_ne];omega
       have HM1:=Lib.hid hm1
       have hfk : FoV w K (.slice aok kk.len capk) kk:=⟨aok,capk,xsk,rfl,hvk2⟩
       have hrec:=ih kk m' (.slice aok kk.len capk) K (wr.alloc (.cells #[.string (st n),.slice aoa a.length capa,.string (st t),.slice aok kk.len capk] 52)) (by omega) (by omega) (by have:=HM1.out;omega) (hfk.below hK BL1.out) (fun b hb=>Nat.lt_of_lt_of_le (hK b hb) BL1.out.size)
       have hsk:=Mk.sizeF_bulk m' kk
       generalize Mk.sizeF m' kk = y at hrec h1 h2 hsk
       obtain ⟨y1,y2⟩:=y
       simp only at h1 h2 hrec hsk
       have HREC:=Lib.hid hrec
       have hmx2 : max (((max deep 1 : Nat) : Int)) ((y2 : Int) + 1) = ((max (max deep 1) (y2 + 1) : Nat) : Int):=by omega
       clear HAT hal hd hrec hfk hvk2 hm1 hss
       go_wp2_with fail
       refine HREC.out.mono ?_
       rintro e w2 ⟨rfl,hb2⟩
       have BL2:=Lib.hid (BL1.out.trans (hb2.mono BL1.out.size))
       have hdp : deep≤9:=by have:=HM1.out;omega
       clear hb2 HREC BL1
       go_wp2_with fail
       go_roundw
       case rel=>exact ⟨k + 1,many + y1,max (max deep 1) (y2 + 1),by omega,by go_num,by go_num,by congr 1;omega,by rw [hd1];omega,by rw [hd1];omega,BL2⟩
       case measure=>simp [intOf];omega
    ·have hke : k = f.len:=by omega
     rw [hke,Mk.Fo.drop_len] at h1 h2
     have h1' : many = (Mk.sizeF m f).1:=by simpa [Mk.sizeF,Mk.Fo.len] using h1
     have h2' : deep = (Mk.sizeF m f).2:=by simpa [Mk.sizeF] using h2
     have H1:=Lib.hid h1'
     have H2:=Lib.hid h2'
     clear h1 h2 h1' h2' HAT
     go_wp2_with fail
     go_ret2
     exact ⟨by rw [H1.out,H2.out];rfl,BL.out⟩
  ·subst hnil
   subst hv1
   clear HAT
   go_enter Tryz.func44,Tryz.ntmps44
   go_wp2_with fail
   go_loopw [6,7,16] (fun a b i wr=>a = .int .i64 0∧b = .int .i64 0∧i = .int .i64 0∧wr = w) (fun _ _ _ _=>0)
   case atStart=>exact ⟨rfl,rfl,rfl,rfl⟩
   case round =>
    obtain ⟨rfl,rfl,rfl,rfl⟩:=hrel
    go_wp2_with fail
    go_ret2
    exact ⟨by cases m <;> rfl,Below.refl _ _⟩
end Go.Proofs.YteidgdpaolieaaaGreatDoor

/- Trees that a call builds: a row of its own, with what lies below it. No program in sight. -/
namespace Mk
namespace Fo
def lastN : Fo→Bs
 | nil=>[]
 | node n _ _ _ nil=>n
 | node _ _ _ _ (node m b u j r)=>lastN (node m b u j r)
def lastT : Fo→Bs
 | nil=>[]
 | node _ _ t _ nil=>t
 | node _ _ _ _ (node m b u j r)=>lastT (node m b u j r)
/-- does a text go into the last node? -/
def merges (f : Fo) (n : Bs) : Bool:=decide (n = []) && decide (f ≠ nil) && decide (lastN f = [])
theorem merges_iff (f : Fo) (n : Bs) : merges f n = true ↔ n = []∧f ≠ nil∧lastN f = []:=by
 unfold merges
 rw [Bool.and_eq_true,Bool.and_eq_true,decide_eq_true_iff,decide_eq_true_iff,decide_eq_true_iff]
 exact and_assoc
theorem merges_tail (n n' : Bs) (a' : List At) (t' : Bs) (k' : Fo) (m : Bs) (b : List At) (u : Bs) (j r : Fo) : merges (node n' a' t' k' (node m b u j r)) n = merges (node m b u j r) n:=by
 rw [Bool.eq_iff_iff,merges_iff,merges_iff]
 constructor
 ·rintro ⟨h1,_,h3⟩;exact ⟨h1,(by intro e;cases e),h3⟩
 ·rintro ⟨h1,_,h3⟩;exact ⟨h1,(by intro e;cases e),h3⟩
theorem merges_nil (n : Bs) : merges nil n = false:=by
 rw [Bool.eq_false_iff];intro h;exact ((merges_iff _ _).1 h).2.1 rfl
theorem snoc_len_merge : ∀ (f : Fo) (n : Bs) (a : List At) (t : Bs) (k : Fo),merges f n = true→(snoc n a t k f).len = f.len
 | nil,n,a,t,k,h=>by rw [merges_nil] at h;cases h
 | node n' a' t' k' nil,n,a,t,k,h=>by
  have h1 : n = []∧n' = []:=⟨((merges_iff _ _).1 h).1,((merges_iff _ _).1 h).2.2⟩
  unfold snoc;rw [if_pos h1];rfl
 | node n' a' t' k' (node m b u j r),n,a,t,k,h=>by
  have:=snoc_len_merge (node m b u j r) n a t k (by rwa [merges_tail] at h)
  show (snoc n a t k (node m b u j r)).len + 1 = (node m b u j r).len + 1
  rw [this]
theorem snoc_len_push : ∀ (f : Fo) (n : Bs) (a : List At) (t : Bs) (k : Fo),merges f n = false→(snoc n a t k f).len = f.len + 1
 | nil,n,a,t,k,_=>rfl
 | node n' a' t' k' nil,n,a,t,k,h=>by
  have h1 : ¬ (n = []∧n' = []):=by
   rintro ⟨rfl,rfl⟩
   rw [(merges_iff _ _).2 ⟨rfl,(by intro e;cases e),rfl⟩] at h;cases h
  unfold snoc;rw [if_neg h1];rfl
 | node n' a' t' k' (node m b u j r),n,a,t,k,h=>by
  have:=snoc_len_push (node m b u j r) n a t k (by rwa [merges_tail] at h)
  show (snoc n a t k (node m b u j r)).len + 1 = (node m b u j r).len + 1 + 1
  rw [this]
theorem snoc_bulk : ∀ (f : Fo) (n : Bs) (a : List At) (t : Bs) (k : Fo),bulk (snoc n a t k f)≤bulk f + (1 + n.length + t.length + atB a + bulk k)
 | nil,n,a,t,k=>by show 1 + n.length + t.length + atB a + bulk k + 0≤0 + (1 + n.length + t.length + atB a + bulk k);omega
 | node n' a' t' k' nil,n,a,t,k=>by
  unfold snoc
  split
  ·show 1 + n'.length + (t'++t).length + atB a' + bulk k' + 0≤(1 + n'.length + t'.length + atB a' + bulk k' + 0) + (1 + n.length + t.length + atB a + bulk k)
   rw [List.length_append];omega
  ·show 1 + n'.length + t'.length + atB a' + bulk k' + (1 + n.length + t.length + atB a + bulk k + 0)≤(1 + n'.length + t'.length + atB a' + bulk k' + 0) + (1 + n.length + t.length + atB a + bulk k)
   omega
 | node n' a' t' k' (node m b u j r),n,a,t,k=>by
  have:=snoc_bulk (node m b u j r) n a t k
  show 1 + n'.length + t'.length + atB a' + bulk k' + bulk (snoc n a t k (node m b u j r))≤(1 + n'.length + t'.length + atB a' + bulk k' + bulk (node m b u j r)) + (1 + n.length + t.length + atB a + bulk k)
  omega
theorem joins_bulk : ∀ (g f : Fo),bulk (joins f g)≤bulk f + bulk g
 | nil,f=>Nat.le_refl _
 | node n a t k r,f=>by
  have h1:=joins_bulk r (snoc n a t k f)
  have h2:=snoc_bulk f n a t k
  show bulk (joins (snoc n a t k f) r)≤bulk f + (1 + n.length + t.length + atB a + bulk k + bulk r)
  omega
theorem lastT_bulk : ∀ f : Fo,(lastT f).length≤bulk f
 | nil=>Nat.le_refl _
 | node n a t k nil=>by show t.length≤1 + n.length + t.length + atB a + bulk k + 0;omega
 | node n a t k (node m b u j r)=>by
  have:=lastT_bulk (node m b u j r)
  show (lastT (node m b u j r)).length≤1 + n.length + t.length + atB a + bulk k + bulk (node m b u j r)
  omega
end Fo
end Mk
namespace Go.Proofs.YteidgdpaolieaaaGreatDoor
open Go.RowKit
theorem FCells.push {w : World} {K : Nat→Prop} {n : List UInt8} {a : List Mk.At} {t : List UInt8} {k : Mk.Fo} {va : Value} {ao : Option Addr} {cap : Nat} {zs : List Value} (h2 : AtsV w K va a) (h3 : RowAt w K ao zs) (h4 : k.len≤maxLen) (h5 : FCells w K k zs) : ∀ (f : Mk.Fo) (xs : List Value),FCells w K f xs→f.merges n = false→FCells w K (Mk.Fo.snoc n a t k f) (xs++[.string (st n),va,.string (st t),.slice ao k.len cap])
 | .nil,xs,h,_=>by
  have h : xs = []:=h
  subst h
  exact ⟨va,ao,cap,zs,[],rfl,h2,h3,h4,h5,rfl⟩
 | .node n' a' t' k' .nil,xs,h,hm=>by
  obtain ⟨va',ao',cap',zs',ys,g1,g2,g3,g4,g5,g6⟩:=h
  have g6 : ys = []:=g6
  subst g6
  have h1 : ¬ (n = []∧n' = []):=by
   rintro ⟨rfl,rfl⟩
   rw [(Mk.Fo.merges_iff _ _).2 ⟨rfl,(by intro e;cases e),rfl⟩] at hm;cases hm
  unfold Mk.Fo.snoc
  rw [if_neg h1,g1]
  exact ⟨va',ao',cap',zs',_,by simp only [List.append_nil],g2,g3,g4,g5,va,ao,cap,zs,[],rfl,h2,h3,h4,h5,rfl⟩
 | .node n' a' t' k' (.node m b u j r),xs,h,hm=>by
  obtain ⟨va',ao',cap',zs',ys,g1,g2,g3,g4,g5,g6⟩:=h
  have:=FCells.push (n:=n) (t:=t) (cap:=cap) h2 h3 h4 h5 (.node m b u j r) ys g6 (by rwa [Mk.Fo.merges_tail] at hm)
  rw [g1,List.append_assoc]
  exact ⟨va',ao',cap',zs',_,rfl,g2,g3,g4,g5,this⟩
theorem FCells.merge {w : World} {K : Nat→Prop} {n : List UInt8} {a : List Mk.At} {t : List UInt8} {k : Mk.Fo} : ∀ (f : Mk.Fo) (xs : List Value),FCells w K f xs→f.merges n = true→FCells w K (Mk.Fo.snoc n a t k f) (xs.set (4 * (f.len - 1) + 2) (.string (st (f.lastT++t))))
 | .nil,xs,h,hm=>by rw [Mk.Fo.merges_nil] at hm;cases hm
 | .node n' a' t' k' .nil,xs,h,hm=>by
  obtain ⟨va',ao',cap',zs',ys,g1,g2,g3,g4,g5,g6⟩:=h
  have h1 : n = []∧n' = []:=⟨((Mk.Fo.merges_iff _ _).1 hm).1,((Mk.Fo.merges_iff _ _).1 hm).2.2⟩
  unfold Mk.Fo.snoc
  rw [if_pos h1,g1]
  exact ⟨va',ao',cap',zs',ys,rfl,g2,g3,g4,g5,g6⟩
 | .node n' a' t' k' (.node m b u j r),xs,h,hm=>by
  obtain ⟨va',ao',cap',zs',ys,g1,g2,g3,g4,g5,g6⟩:=h
  have hh:=FCells.merge (n:=n) (a:=a) (t:=t) (k:=k) (.node m b u j r) ys g6 (by rwa [Mk.Fo.merges_tail] at hm)
  refine ⟨va',ao',cap',zs',_,?_,g2,g3,g4,g5,hh⟩
  rw [g1]
  have e : 4 * ((Mk.Fo.node n' a' t' k' (.node m b u j r)).len - 1) + 2 = 4 + (4 * ((Mk.Fo.node m b u j r).len - 1) + 2):=by
   show 4 * (r.len + 1 + 1 - 1) + 2 = 4 + (4 * (r.len + 1 - 1) + 2)
   omega
  rw [e,List.set_append_right _ _ (by simp)]
  simp [Mk.Fo.lastT]
theorem FCells.last_ {w : World} {K : Nat→Prop} : ∀ (f : Mk.Fo) (xs : List Value),FCells w K f xs→f ≠ .nil→xs[4 * (f.len - 1)]? = some (.string (st f.lastN))∧xs[4 * (f.len - 1) + 2]? = some (.string (st f.lastT))
 | .nil,_,_,hn=>absurd rfl hn
 | .node n' a' t' k' .nil,xs,h,_=>by
  obtain ⟨va',ao',cap',zs',ys,g1,_⟩:=h
  rw [g1]
  exact ⟨rfl,rfl⟩
 | .node n' a' t' k' (.node m b u j r),xs,h,_=>by
  obtain ⟨va',ao',cap',zs',ys,g1,g2,g3,g4,g5,g6⟩:=h
  obtain ⟨h1,h2⟩:=FCells.last_ (.node m b u j r) ys g6 (by intro e;cases e)
  have e : (Mk.Fo.node n' a' t' k' (.node m b u j r)).len - 1 = ((Mk.Fo.node m b u j r).len - 1) + 1:=by
   show r.len + 1 + 1 - 1 = (r.len + 1 - 1) + 1
   omega
  rw [g1,e]
  constructor
  ·rw [show 4 * ((Mk.Fo.node m b u j r).len - 1 + 1) = 4 * ((Mk.Fo.node m b u j r).len - 1) + 4 by omega,List.getElem?_append_right (by simp)]
   simpa [Mk.Fo.lastN] using h1
  ·rw [show 4 * ((Mk.Fo.node m b u j r).len - 1 + 1) + 2 = 4 * ((Mk.Fo.node m b u j r).len - 1) + 2 + 4 by omega,List.getElem?_append_right (by simp)]
   simpa [Mk.Fo.lastT] using h2
theorem own_set {w : World} {B size n : Nat} {e : TypeId} {v : Value} {xs : List Value} (h : w.ownsRow B e size v n xs) {g : Nat} (hg : v.ownBlock = some g) (i : Nat) (u : Value) : (w.setCell ⟨g,i,none⟩ u).ownsRow B e size v n (xs.set i u):=by
 refine ⟨by rw [List.length_set];exact h.1,?_⟩
 rcases h.2 with ⟨hv,_⟩ | ⟨g',cap,cur,hv,hb,hh,hnc,hcm,hcs,ht⟩
 ·rw [hv] at hg;cases hg
 ·rw [hv] at hg
  injection hg with hg
  have hg : g' = g:=hg
  subst hg
  refine .inr ⟨g',cap,cur.setIfInBounds i u,hv,hb,?_,hnc,hcm,by simpa using hcs,?_⟩
  ·have:=Blk.set_ (w:=w) (g:=g') (t:=e) (cs:=cur) hh i u
   exact this
  ·rw [← ht,Array.toList_setIfInBounds,List.take_set]
/-- a tree whose outermost row is the call's own. -/
structure OwnF (w : World) (B : Nat) (K : Nat→Prop) (v : Value) (f : Mk.Fo) (xs : List Value) : Prop where
 own : w.ownsRow B 52 4 v f.len xs
 cells : FCells w K f xs
 ne : ∀ g,v.ownBlock = some g→¬ K g
 le : ∀ b,K b→b < w.heap.size
theorem OwnF.frame {w w' : World} {B : Nat} {K : Nat→Prop} {v : Value} {f : Mk.Fo} {xs : List Value} (h : OwnF w B K v f xs) (hs : w.heap.size≤w'.heap.size) (hk : ∀ b,b < w.heap.size→(K b ∨ v.ownBlock = some b)→w'.heap[b]? = w.heap[b]?) : OwnF w' B K v f xs:=by
 refine ⟨⟨h.own.1,h.own.2.imp id ?_⟩,h.cells.frame fun b hb=>⟨hb,hk b (h.le b hb) (.inl hb)⟩,h.ne,fun b hb=>Nat.lt_of_lt_of_le (h.le b hb) hs⟩
 rintro ⟨g,cap,cur,h1,h2,h3,h4⟩
 have e : v.ownBlock = some g:=by rw [h1];rfl
 exact ⟨g,cap,cur,h1,h2,(hk g (h.own.lt g e).2 (.inr e)).trans h3,h4⟩
theorem OwnF.foV {w : World} {B : Nat} {K K' : Nat→Prop} {v : Value} {f : Mk.Fo} {xs : List Value} (h : OwnF w B K v f xs) (hK : ∀ b,K b→K' b) (ho : ∀ g,v.ownBlock = some g→K' g) : FoV w K' v f:=by
 obtain ⟨ao,cap,h1,h2,h3,h4⟩:=RowAt.of_own h.own ho
 exact ⟨ao,cap,xs,h1,h2,h.cells.frame fun b hb=>⟨hK b hb,rfl⟩,h4⟩
end Go.Proofs.YteidgdpaolieaaaGreatDoor

/- Contracts of the program's Attrs and node: what is wrong with attributes, and with a node by itself. Condition: at most 33554432 attributes and letters. -/
namespace Mk
theorem checkAts_step (q : Bs→Bool) (l : List At) (k : Nat) (h : k < l.length) : checkAts q (l.take k) (l.drop k) = if !q l[k].n then 1 else if hasAt (l.take k) l[k].n then 6 else checkAts q (l.take (k + 1)) (l.drop (k + 1)):=by
 rw [List.drop_eq_getElem_cons h,List.take_succ_eq_append_getElem h];rfl
end Mk
namespace Go.Proofs.YteidgdpaolieaaaGreatDoor
open Go.RowKit
theorem AtsV.take {w : World} {K : Nat→Prop} {ao : Option Addr} {cap : Nat} {l : List Mk.At} (h : AtsV w K (.slice ao l.length cap) l) (i : Nat) (hi : i≤l.length) : AtsV w K (.slice ao i cap) (l.take i):=by
 obtain ⟨ao',cap',h1,h2,h3,h4⟩:=h
 injection h1 with e1 e2 e3
 subst e1;subst e3
 refine ⟨ao,cap,by rw [List.length_take,Nat.min_eq_left hi],?_,by rw [List.length_take];omega,by rw [List.length_take];omega⟩
 rcases h2 with h2 | ⟨g,o,e1,e2,e3⟩
 ·left
  have : l = []:=List.eq_nil_of_length_eq_zero (by have:=atCells_len l;rw [h2] at this;simp at this;omega)
  subst this
  simp [atCells]
 ·refine .inr ⟨g,o,e1,e2,fun k v hk=>e3 k v ?_⟩
  have hsplit : atCells l = atCells (l.take i)++atCells (l.drop i):=by
   rw [atCells,atCells,atCells,← List.flatMap_append,List.take_append_drop]
  rw [hsplit,List.getElem?_append_left]
  ·exact hk
  ·rcases Nat.lt_or_ge k (atCells (l.take i)).length with q | q
   ·exact q
   ·rw [List.getElem?_eq_none q] at hk;cases hk
theorem asks_Attrs1 (P : Nat) (nm : List UInt8) (l : List Mk.At) (w : World) (hP : P < w.heap.size) (hc : w.cell? ⟨P,0,none⟩ = some (.string (st nm))) : AsksA 138 #[.pointer (some ⟨P,0,none⟩)] (fun a=>a.n == nm) l w:=by
 intro w1 hb a _
 have c0 : w1.cell? ⟨P,0,none⟩ = some (.string (st nm)):=(hb.cell (p:=⟨P,0,none⟩) hP).trans hc
 have hP1 : P < w1.heap.size:=Nat.lt_of_lt_of_le hP hb.size
 unfold atV
 go_enter Tryz.func138,Tryz.ntmps138
 go_wp2_with fail
 go_ret
 exact ⟨ret_bool (by rw [show (st a.n).toList = a.n from Lib.toList_data _,show (st nm).toList = nm from Lib.toList_data _]),(Below.refl _ w1).alloc (Nat.le_refl _) _⟩
theorem eg_Attrs1 (args : Array Value) (w : World) : (callFunc 138 args).run Tryz.prog w = .ok (.enter 138 args) w:=run_callFunc_enter' Tryz.func138 (by kernel_rfl) rfl _ _
theorem eg_Name (args : Array Value) (w : World) : (callFunc 114 args).run Tryz.prog w = .ok (.enter 114 args) w:=run_callFunc_enter' Tryz.func114 (by kernel_rfl) rfl _ _

set_option maxHeartbeats 2000000 in
set_option maxRecDepth 100000 in
theorem mk_Attrs (l : List Mk.At) (v : Value) (K : Nat→Prop) (w : World) (hv : AtsV w K v l) (hK : ∀ b,K b→b < w.heap.size) (hl : Mk.Fo.atB l≤33554432) :
  Calls Tryz.prog 115 #[v,.func (.func 114) #[] #[]] w fun e w'=>e = .returned (.int .i64 (Mk.checkAts Mk.isName [] l))∧Below w.heap.size w w':=by
 have hll:=Mk.atB_len l
 obtain ⟨b,o,cap,hKb,hv1,hcl⟩:=hv.at_
 have HC:=Lib.hid hcl
 have EG:=Lib.hid eg_Name
 clear hcl
 have eg:=eg_Name
 rcases hv1 with hv1 | ⟨ao,hv1,hl0⟩
 ·subst hv1
  have hcap : l.length≤cap:=by
   obtain ⟨ao',cap',h1,_,h3,_⟩:=hv
   injection h1 with _ _ e3
   rw [e3];exact h3
  go_enter Tryz.func115,Tryz.ntmps115
  go_wp2_with fail
  go_loopw [9] (fun i wr=>∃ k : Nat,k≤l.length∧i = .int .i64 k∧Hid (Mk.checkAts Mk.isName [] l = Mk.checkAts Mk.isName (l.take k) (l.drop k))∧Hid (Below w.heap.size w wr)) (fun i _=>l.length - (intOf i).toNat)
  case atStart=>exact ⟨0,Nat.zero_le _,rfl,rfl,Below.refl _ _⟩
  case round =>
   obtain ⟨k,hk,rfl,HA,BL⟩:=hrel
   have hsz:=BL.out.size
   by_cases hlt : k < l.length
   ·have hb : b < w.heap.size:=hK b (hKb (by intro e;subst e;simp at hlt))
    obtain ⟨c0,c1⟩:=HC.out k hlt
    rw [← BL.out.cell (p:=⟨b,_,none⟩) hb] at c0 c1
    have hmem:=Mk.atB_mem (List.getElem_mem hlt)
    have HD : Hid (Mk.checkAts Mk.isName [] l = if !Mk.isName l[k].n then 1 else if Mk.hasAt (l.take k) l[k].n then 6 else Mk.checkAts Mk.isName (l.take (k + 1)) (l.drop (k + 1))):=by show _ = _;rw [HA.out,Mk.checkAts_step _ _ _ hlt]
    generalize l[k] = a at c0 c1 HD hmem
    have hnm:=fun W=>mk_Name (st a.n) W (by rw [st_size];omega)
    rw [bs_st] at hnm
    have hal:=(Below.refl wr.heap.size wr).alloc (Nat.le_refl _) (.cells #[.string (st a.n),.string (st a.v)] 58)
    have PB:=Lib.hid (Blk.new wr 58 #[.string (st a.n),.string (st a.v)])
    have BL1:=Lib.hid (BL.out.trans (hal.mono hsz))
    cases hin : Mk.isName a.n with
    | false =>
     rw [hin] at HD hnm
     have HN:=Lib.hid hnm
     clear hnm hin HC HA hal
     go_wp2_with fail
     refine (HN.out _).mono ?_
     rintro e w2 ⟨rfl,rfl⟩
     go_wp2_with fail
     go_ret
     exact ⟨by rw [HD.out];rfl,BL1.out⟩
    | true =>
     rw [hin] at HD hnm
     have HN:=Lib.hid hnm
     obtain ⟨hh,hhe⟩ : ∃ hh,Mk.hasAt (l.take k) a.n = hh:=⟨_,rfl⟩
     rw [hhe] at HD
     have hvw : AtsV (wr.alloc (.cells #[.string (st a.n),.string (st a.v)] 58)) K (.slice (some ⟨b,o,none⟩) k cap) (l.take k):=(AtsV.take hv k hk).below hK BL1.out
     have hcf:=sl_ContainsFunc 138 #[.pointer (some ⟨wr.heap.size,0,none⟩)] (fun x=>x.n == a.n) eg_Attrs1 (l.take k) (.slice (some ⟨b,o,none⟩) k cap) K _ hvw (fun b hb=>Nat.lt_of_lt_of_le (hK b hb) BL1.out.size) (by rw [List.length_take];omega) (asks_Attrs1 wr.heap.size a.n (l.take k) _ (Blk.lt PB.out) (Blk.cell PB.out 0))
     rw [show (l.take k).any (fun x=>x.n == a.n) = hh from hhe] at hcf
     have HCF:=Lib.hid hcf
     have hkc : (k : Int)≤cap:=by omega
     have hk0 : (0 : Int)≤k:=by omega
     clear hnm hin HC HA hal hvw hcf hhe
     cases hh with
     | true =>
      go_wp2_with fail
      refine (HN.out _).mono ?_
      rintro e w2 ⟨rfl,rfl⟩
      go_wp2_with fail
      refine HCF.out.mono ?_
      rintro e w3 ⟨rfl,hb3⟩
      have BL3:=Lib.hid (BL1.out.trans (hb3.mono BL1.out.size))
      clear hb3 HCF
      go_wp2_with fail
      go_ret
      exact ⟨by rw [HD.out];rfl,BL3.out⟩
     | false =>
      go_wp2_with fail
      refine (HN.out _).mono ?_
      rintro e w2 ⟨rfl,rfl⟩
      go_wp2_with fail
      refine HCF.out.mono ?_
      rintro e w3 ⟨rfl,hb3⟩
      have BL3:=Lib.hid (BL1.out.trans (hb3.mono BL1.out.size))
      clear hb3 HCF
      go_wp2_with fail
      go_roundw
      case rel=>exact ⟨k + 1,by omega,by go_num,by show _ = _;rw [HD.out];rfl,BL3⟩
      case measure=>simp [intOf];omega
   ·have hke : k = l.length:=by omega
    have HE : Hid (Mk.checkAts Mk.isName [] l = 0):=by show _ = _;rw [HA.out,List.drop_of_length_le (by omega)];rfl
    clear HA HC
    go_wp2_with fail
    go_ret
    exact ⟨by rw [HE.out];rfl,BL.out⟩
 ·subst hl0
  subst hv1
  clear HC hK
  go_enter Tryz.func115,Tryz.ntmps115
  go_wp2_with fail
  go_loopw [9] (fun i wr=>i = .int .i64 0∧wr = w) (fun _ _=>0)
  case atStart=>exact ⟨rfl,rfl⟩
  case round =>
   obtain ⟨rfl,rfl⟩:=hrel
   go_wp2_with fail
   go_ret
   exact ⟨rfl,Below.refl _ _⟩
def nodeV (n : List UInt8) (va : Value) (t : List UInt8) (vk : Value) : Value:=.agg #[.string (st n),va,.string (st t),vk]
theorem Fo_len_pos (k : Mk.Fo) (h : k ≠ .nil) : 0 < k.len:=by
 cases k with
 | nil=>exact absurd rfl h
 | node _ _ _ _ _=>exact Nat.succ_pos _
set_option maxHeartbeats 4000000 in
set_option maxRecDepth 100000 in
theorem tr_node (names : List (List UInt8)) (n t : List UInt8) (a : List Mk.At) (k : Mk.Fo) (va vk vn : Value) (K : Nat→Prop) (w : World) (hva : AtsV w K va a) (hvk : FoV w K vk k) (hvn : StrsV w K vn names) (hK : ∀ b,K b→b < w.heap.size) (hnl : n.length≤33554432) (hl : Mk.Fo.atB a≤33554432) (hnm : names.length≤33554432) :
  Calls Tryz.prog 77 #[nodeV n va t vk,vn] w fun e w'=>e = .returned (.int .i64 (Mk.nodeE names n a t k))∧Below w.heap.size w w':=by
 have hst : ∀ l : List UInt8,(st l).toList = l:=fun l=>Lib.toList_data _
 obtain ⟨aoa,capa,hva1,hva2⟩:=id hva
 obtain ⟨aok,capk,xsk,hvk1,hvk2⟩:=id hvk
 subst hva1
 subst hvk1
 have hll:=Mk.atB_len a
 have hkl:=hvk2.2.2
 have hkm : (maxLen : Int)≤9223372036854775807:=by unfold maxLen;omega
 have hal:=(Below.refl w.heap.size w).alloc (Nat.le_refl _) (.cells #[.string (st n),.slice aoa a.length capa,.string (st t),.slice aok k.len capk] 52)
 have AL:=Lib.hid hal
 clear hal hvk2 hvk
 unfold nodeV
 generalize hla : a.length = la at *
 generalize hlk : k.len = lk at *
 have HLA:=Lib.hid hla
 have HLK:=Lib.hid hlk
 clear hla hlk hkl
 have tE : ∀ l : List UInt8,l ≠ []→l.isEmpty = false:=fun l h=>by
  cases l with
  | nil=>exact absurd rfl h
  | cons _ _=>rfl
 have TE:=Lib.hid tE
 clear tE
 by_cases hn : n = []
 ·subst hn
  have hst0 : (st []).toList = []:=Lib.toList_data _
  have e0 : ([] : List UInt8).isEmpty = true:=rfl
  by_cases ht : t = []
  ·have HE : Hid (Mk.nodeE names [] a t k = 1):=by show _ = _;simp [Mk.nodeE,ht]
   subst ht
   go_enter Tryz.func77,Tryz.ntmps77
   go_wp2_with fail
   go_ret
   exact ⟨ret_int (by rw [HE.out]),AL.out⟩
  ·have ht2:=TE.out t ht
   by_cases ha : a = []
   ·by_cases hk : k = .nil
    ·have HE : Hid (Mk.nodeE names [] a t k = 0):=by show _ = _;simp [Mk.nodeE,ht,ha,hk]
     have ha2 : ¬ 0 < la:=by rw [← HLA.out,ha];simp
     have hk2 : ¬ 0 < lk:=by rw [← HLK.out,hk];simp [Mk.Fo.len]
     clear ha hk
     go_enter Tryz.func77,Tryz.ntmps77
     go_wp2_with fail
     go_ret
     exact ⟨ret_int (by rw [HE.out]),AL.out⟩
    ·have HE : Hid (Mk.nodeE names [] a t k = 1):=by show _ = _;simp [Mk.nodeE,hk]
     have ha2 : ¬ 0 < la:=by rw [← HLA.out,ha];simp
     have hk2 : 0 < lk:=by rw [← HLK.out];exact Fo_len_pos k hk
     clear ha hk
     go_enter Tryz.func77,Tryz.ntmps77
     go_wp2_with fail
     go_ret
     exact ⟨ret_int (by rw [HE.out]),AL.out⟩
   ·have HE : Hid (Mk.nodeE names [] a t k = 1):=by show _ = _;simp [Mk.nodeE,ha]
    have ha2 : 0 < la:=by rw [← HLA.out];exact List.length_pos_iff.2 ha
    go_enter Tryz.func77,Tryz.ntmps77
    go_wp2_with fail
    go_ret
    exact ⟨ret_int (by rw [HE.out]),AL.out⟩
 ·have hn2:=TE.out n hn
  by_cases ht : t = []
  ·subst ht
   have hst0 : (st []).toList = []:=Lib.toList_data _
   have e0 : ([] : List UInt8).isEmpty = true:=rfl
   have hnm1:=fun W=>mk_Name (st n) W (by rw [st_size];exact hnl)
   rw [bs_st] at hnm1
   have hem:=fun W=>tr_Empty n W
   obtain ⟨bn,hbn⟩ : ∃ b,Mk.isName n = b:=⟨_,rfl⟩
   obtain ⟨be,hbe⟩ : ∃ b,Mk.emptyB n = b:=⟨_,rfl⟩
   rw [hbn] at hnm1
   rw [hbe] at hem
   have HN:=Lib.hid hnm1
   have HM:=Lib.hid hem
   clear hnm1 hem
   cases bn with
   | false =>
    have HE : Hid (Mk.nodeE names n a [] k = 1):=by show _ = _;simp [Mk.nodeE,hn,hbn]
    clear hbn hbe
    go_enter Tryz.func77,Tryz.ntmps77
    go_wp2_with fail
    refine (HN.out _).mono ?_
    rintro e w1 ⟨rfl,rfl⟩
    go_wp2_with fail
    go_ret
    exact ⟨ret_int (by rw [HE.out]),AL.out⟩
   | true =>
    have REST : (be = false ∨ k = .nil)→Mk.nodeE names n a [] k = (if Mk.checkAts Mk.isName [] a ≠ 0 then Mk.checkAts Mk.isName [] a else if Mk.stays names n < names.length then 4 else 0):=by
     intro h
     have : ¬ (([] : List UInt8) ≠ [] ∨ (!Mk.isName n) = true ∨ (Mk.emptyB n = true∧k ≠ .nil)):=by
      rw [hbn,hbe]
      rintro (q | q | ⟨q,q2⟩)
      ·exact q rfl
      ·cases q
      ·rcases h with h | h
       ·rw [h] at q;cases q
       ·exact q2 h
     unfold Mk.nodeE
     rw [if_neg hn,if_neg this]
    have AA:=mk_Attrs a (.slice aoa la capa) K
    have HAA:=Lib.hid AA
    have HREST:=Lib.hid REST
    clear AA REST
    obtain ⟨ce,hce⟩ : ∃ c,Mk.checkAts Mk.isName [] a = c:=⟨_,rfl⟩
    obtain ⟨sn,hsn⟩ : ∃ c,Mk.stays names n = c:=⟨_,rfl⟩
    rw [hce,hsn] at HREST
    rw [hce] at HAA
    have HSN:=Lib.hid hsn
    clear hce hsn
    cases be with
    | true =>
     by_cases hk : k = .nil
     ·have hk2 : ¬ 0 < lk:=by rw [← HLK.out,hk];simp [Mk.Fo.len]
      have HE:=Lib.hid (HREST.out (.inr hk))
      clear HREST hbn hbe hk
      go_enter Tryz.func77,Tryz.ntmps77
      go_wp2_with fail
      refine (HN.out _).mono ?_
      rintro e w1 ⟨rfl,hw1⟩
      rw [hw1]
      clear hw1 w1
      go_wp2_with fail
      refine (HM.out _).mono ?_
      rintro e w2 ⟨rfl,hw2⟩
      rw [hw2]
      clear hw2 w2
      have HA:=Lib.hid (HAA.out (w.alloc (.cells #[.string (st n),.slice aoa la capa,.string (st []),.slice aok lk capk] 52)) (hva.below hK AL.out) (fun b hb=>Nat.lt_of_lt_of_le (hK b hb) AL.out.size) hl)
      clear HAA
      go_wp2_with fail
      refine HA.out.mono ?_
      rintro e w3 ⟨rfl,hb3⟩
      have L3:=Lib.hid (AL.out.trans (hb3.mono AL.out.size))
      have PB:=Lib.hid (Blk.below (Blk.new w 52 #[.string (st n),.slice aoa la capa,.string (st []),.slice aok lk capk]) hb3 (Blk.lt (Blk.new w _ _)))
      have p0 : w3.cell? ⟨w.heap.size,0,none⟩ = some (.string (st n)):=Blk.cell PB.out 0
      have HS:=Lib.hid (tr_stays names n vn K w3 (hvn.below hK L3.out) hnm)
      rw [HSN.out] at HS
      clear hb3 HA
      by_cases hc0 : ce = 0
      ·subst hc0
       obtain ⟨aon,capn,hvn1,_⟩:=hvn
       subst hvn1
       go_wp2_with fail
       refine HS.out.mono ?_
       rintro e w4 ⟨rfl,rfl⟩
       by_cases hlt : sn < names.length
       ·have hlt2 : (sn : Int) < names.length:=by omega
        go_wp2_with fail
        go_ret
        exact ⟨ret_int (by rw [HE.out,if_neg (by simp),if_pos hlt]),L3.out⟩
       ·have hlt2 : ¬ (sn : Int) < names.length:=by omega
        go_wp2_with fail
        go_ret
        exact ⟨ret_int (by rw [HE.out,if_neg (by simp),if_neg hlt]),L3.out⟩
      ·have hc1 : (ce == 0) = false:=beq_eq_false_iff_ne.2 hc0
       go_wp2_with fail
       go_ret
       exact ⟨ret_int (by rw [HE.out,if_pos hc0]),L3.out⟩
     ·have HE : Hid (Mk.nodeE names n a [] k = 1):=by show _ = _;simp [Mk.nodeE,hn,hbn,hbe,hk]
      have hk2 : 0 < lk:=by rw [← HLK.out];exact Fo_len_pos k hk
      clear hbn hbe HREST HAA
      go_enter Tryz.func77,Tryz.ntmps77
      go_wp2_with fail
      refine (HN.out _).mono ?_
      rintro e w1 ⟨rfl,rfl⟩
      go_wp2_with fail
      refine (HM.out _).mono ?_
      rintro e w2 ⟨rfl,rfl⟩
      go_wp2_with fail
      go_ret
      exact ⟨ret_int (by rw [HE.out]),AL.out⟩
    | false =>
     have HE:=Lib.hid (HREST.out (.inl rfl))
     clear HREST hbn hbe
     go_enter Tryz.func77,Tryz.ntmps77
     go_wp2_with fail
     refine (HN.out _).mono ?_
     rintro e w1 ⟨rfl,hw1⟩
     rw [hw1]
     clear hw1 w1
     go_wp2_with fail
     refine (HM.out _).mono ?_
     rintro e w2 ⟨rfl,hw2⟩
     rw [hw2]
     clear hw2 w2
     have HA:=Lib.hid (HAA.out (w.alloc (.cells #[.string (st n),.slice aoa la capa,.string (st []),.slice aok lk capk] 52)) (hva.below hK AL.out) (fun b hb=>Nat.lt_of_lt_of_le (hK b hb) AL.out.size) hl)
     clear HAA
     go_wp2_with fail
     refine HA.out.mono ?_
     rintro e w3 ⟨rfl,hb3⟩
     have L3:=Lib.hid (AL.out.trans (hb3.mono AL.out.size))
     have PB:=Lib.hid (Blk.below (Blk.new w 52 #[.string (st n),.slice aoa la capa,.string (st []),.slice aok lk capk]) hb3 (Blk.lt (Blk.new w _ _)))
     have p0 : w3.cell? ⟨w.heap.size,0,none⟩ = some (.string (st n)):=Blk.cell PB.out 0
     have HS:=Lib.hid (tr_stays names n vn K w3 (hvn.below hK L3.out) hnm)
     rw [HSN.out] at HS
     clear hb3 HA
     by_cases hc0 : ce = 0
     ·subst hc0
      obtain ⟨aon,capn,hvn1,_⟩:=hvn
      subst hvn1
      go_wp2_with fail
      refine HS.out.mono ?_
      rintro e w4 ⟨rfl,rfl⟩
      by_cases hlt : sn < names.length
      ·have hlt2 : (sn : Int) < names.length:=by omega
       go_wp2_with fail
       go_ret
       exact ⟨ret_int (by rw [HE.out,if_neg (by simp),if_pos hlt]),L3.out⟩
      ·have hlt2 : ¬ (sn : Int) < names.length:=by omega
       go_wp2_with fail
       go_ret
       exact ⟨ret_int (by rw [HE.out,if_neg (by simp),if_neg hlt]),L3.out⟩
     ·have hc1 : (ce == 0) = false:=beq_eq_false_iff_ne.2 hc0
      go_wp2_with fail
      go_ret
      exact ⟨ret_int (by rw [HE.out,if_pos hc0]),L3.out⟩
  ·have HE : Hid (Mk.nodeE names n a t k = 1):=by show _ = _;simp [Mk.nodeE,hn,ht]
   have ht2:=TE.out t ht
   go_enter Tryz.func77,Tryz.ntmps77
   go_wp2_with fail
   go_ret
   exact ⟨ret_int (by rw [HE.out]),AL.out⟩
end Go.Proofs.YteidgdpaolieaaaGreatDoor

/- Contract of the program's put of what is clean: nodes behind others. Condition: at most 1099511627776 nodes, attributes and letters together. -/
namespace Go.Proofs.YteidgdpaolieaaaGreatDoor
open Go.RowKit
theorem Tryz.infoNode : (Tryz.prog.info? 52).map (fun i=>(i.zero,i.size,i.bytes)) = some (some (.agg #[.string ⟨#[]⟩,.slice none 0 0,.string ⟨#[]⟩,.slice none 0 0]),4,80):=by kernel_rfl
section
variable {w w1 w2 : World} {B : Nat} {K : Nat→Prop} {v v' : Value} {f : Mk.Fo} {xs : List Value}
theorem OwnF.merged (h : OwnF w B K v f xs) {n : List UInt8} (a : List Mk.At) (t : List UInt8) (k : Mk.Fo) (hm : f.merges n = true) {g : Nat} (hg : v.ownBlock = some g) : OwnF (w.setCell ⟨g,4 * (f.len - 1) + 2,none⟩ (.string (st (f.lastT++t)))) B K v (Mk.Fo.snoc n a t k f) (xs.set (4 * (f.len - 1) + 2) (.string (st (f.lastT++t)))):=by
 refine ⟨?_,?_,h.ne,?_⟩
 ·rw [Mk.Fo.snoc_len_merge f n a t k hm]
  exact own_set h.own hg _ _
 ·refine (FCells.merge f xs h.cells hm).frame fun b hb=>⟨hb,Below.heap_setCell w ⟨g,_,none⟩ _ b ?_⟩
  rintro rfl
  exact h.ne _ hg hb
 ·intro b hb
  have:=h.le b hb
  simpa [World.setCell] using this
theorem OwnF.pushed (h : OwnF w B K v f xs) {n : List UInt8} {a : List Mk.At} {t : List UInt8} {k : Mk.Fo} {va : Value} {ao : Option Addr} {cap : Nat} {zs : List Value} (h2 : AtsV w K va a) (h3 : RowAt w K ao zs) (h4 : k.len≤maxLen) (h5 : FCells w K k zs) (hm : f.merges n = false) (h1 : Below w.heap.size w w1)
  (hown : w2.ownsRow B 52 4 v' (f.len + 1) (xs++[.string (st n),va,.string (st t),.slice ao k.len cap])) (hgr : w1.grownBy w2 v.ownBlock) (hf : v'.ownBlock = v.ownBlock ∨ v'.ownBlock = some w1.heap.size) :
  OwnF w2 B K v' (Mk.Fo.snoc n a t k f) (xs++[.string (st n),va,.string (st t),.slice ao k.len cap]):=by
 have keep : ∀ b,K b→K b∧w2.heap[b]? = w.heap[b]?:=fun b hb=>⟨hb,(hgr.block b (Nat.lt_of_lt_of_le (h.le b hb) h1.size) (fun e=>h.ne b e.symm hb)).trans (h1.block b (h.le b hb))⟩
 refine ⟨by rw [Mk.Fo.snoc_len_push f n a t k hm];exact hown,(FCells.push h2 h3 h4 h5 f xs h.cells hm).frame keep,?_,fun b hb=>Nat.lt_of_lt_of_le (h.le b hb) (Nat.le_trans h1.size hgr.size)⟩
 intro g hg
 rcases hf with e | e
 ·rw [e] at hg;exact h.ne g hg
 ·rw [e] at hg
  injection hg with hg
  intro hb
  have:=h.le g hb
  have:=h1.size
  omega
/-- the last node of an own row. -/
theorem OwnF.last (h : OwnF w B K v f xs) (hn : f ≠ .nil) : ∃ g cap,v = .slice (some ⟨g,0,none⟩) f.len cap∧w.cell? ⟨g,(f.len - 1) * 4,none⟩ = some (.string (st f.lastN))∧w.cell? ⟨g,(f.len - 1) * 4 + 2,none⟩ = some (.string (st f.lastT))∧(∀ i,w.frozen? ⟨g,i,none⟩ = false):=by
 obtain ⟨h1,h2⟩:=FCells.last_ f xs h.cells hn
 have hl:=h.cells.length
 rcases h.own.2 with ⟨_,h0⟩ | ⟨g,cap,cur,hv,hb,hh,hnc,hcm,hcs,ht⟩
 ·exfalso
  cases f with
  | nil=>exact hn rfl
  | node _ _ _ _ _=>simp [Mk.Fo.len] at h0
 ·have hc:=h.own.cells (g:=g) (by rw [hv];rfl)
  have e0 : ∀ j,(⟨g,0,none⟩ : Addr).add j = ⟨g,j,none⟩:=by intro j;unfold Addr.add;split <;> simp_all
  have c1:=hc _ _ h1
  have c2:=hc _ _ h2
  rw [e0] at c1 c2
  rw [Nat.mul_comm (f.len - 1) 4]
  exact ⟨g,cap,hv,c1,c2,fun i=>by simp [World.frozen?,hh]⟩
end
def freshOf (w : World) (v v' : Value) : Prop:=v'.ownBlock = v.ownBlock ∨ ∃ b,v'.ownBlock = some b∧w.heap.size≤b
set_option maxHeartbeats 8000000 in
set_option maxRecDepth 100000 in
theorem cl_put (f g : Mk.Fo) (v vm : Value) (B : Nat) (K : Nat→Prop) (xs : List Value) (w : World) (hF : OwnF w B K v f xs) (hg : FoV w K vm g) (hB : B≤w.heap.size) (hl : f.bulk + g.bulk≤1099511627776) :
  Calls Tryz.prog 97 #[v,vm] w fun e w'=>∃ v' xs',e = .returned v'∧OwnF w' B K v' (f.joins g) xs'∧Ap (fun b=>v.ownBlock = some b) w w'∧freshOf w v v':=by
 obtain ⟨gm,o,cap,hv1,hlen,hat⟩:=hg.at_
 have HAT:=Lib.hid hat
 clear hat
 have hgl:=Mk.Fo.len_bulk g
 have hst : ∀ l : List UInt8,(st l).toList = l:=fun l=>Lib.toList_data _
 have HF:=Lib.hid hF
 have hvs:=own_slice hF.own
 rcases hv1 with ⟨hv1,hKg⟩ | ⟨ao,hv1,hnil⟩
 ·subst hv1
  clear hvs
  have hKw:=Lib.hid hF.le
  clear hF
  go_enter Tryz.func97,Tryz.ntmps97
  go_wp2_with fail
  go_loopw [0,10] (fun u i wr=>∃ (k : Nat) (f' : Mk.Fo) (xs' : List Value),k≤g.len∧i = .int .i64 k∧f'.bulk + (g.drop k).bulk≤1099511627776∧Hid (f.joins g = f'.joins (g.drop k))∧Hid (OwnF wr B K u f' xs')∧Hid (Ap (fun b=>v.ownBlock = some b) w wr)∧Hid (freshOf w v u)) (fun _ i _=>g.len - (intOf i).toNat)
  case atStart=>exact ⟨0,f,xs,Nat.zero_le _,rfl,by rw [Mk.Fo.drop_zero];exact hl,by show _ = _;rw [Mk.Fo.drop_zero],HF,Ap.refl _ _,.inl rfl⟩
  case round =>
   obtain ⟨k,f',xs',hk,rfl,hbk,HJ,OF,AP,FR⟩:=hrel
   have hsz:=AP.out.size
   by_cases hlt : k < g.len
   ·obtain ⟨n,a,t,kk,r,hd,hd1⟩:=Mk.Fo.drop_lt g k hlt
    obtain ⟨va,vk,c0,c1,c2,c3,hva,hvk⟩:=HAT.out k n a t kk r hd
    have hgm : wr.heap[gm]? = w.heap[gm]?:=AP.out.block gm (hKw.out gm hKg) (fun e=>HF.out.ne gm e hKg)
    rw [← cell_of_block hgm] at c0 c1 c2 c3
    obtain ⟨aoa,capa,hva1,hva2⟩:=id hva
    obtain ⟨aok,capk,xsk,hvk1,hvk2,hvk3,hvk4⟩:=id hvk
    subst hva1
    subst hvk1
    have keepK : ∀ b,K b→K b∧wr.heap[b]? = w.heap[b]?:=fun b hb=>⟨hb,AP.out.block b (hKw.out b hb) (fun e=>HF.out.ne b e hb)⟩
    have HVA:=Lib.hid (hva.frame keepK)
    have HVK:=Lib.hid (hvk2.frame keepK)
    have HVF:=Lib.hid (hvk3.frame keepK)
    have hdb : (g.drop k).bulk = 1 + n.length + t.length + Mk.Fo.atB a + kk.bulk + r.bulk:=by rw [hd];rfl
    have HJ2 : Hid (f.joins g = (Mk.Fo.snoc n a t kk f').joins (g.drop (k + 1))):=by show _ = _;rw [HJ.out,hd,hd1];rfl
    have hbk2 : (Mk.Fo.snoc n a t kk f').bulk + (g.drop (k + 1)).bulk≤1099511627776:=by
     have:=Mk.Fo.snoc_bulk f' n a t kk
     rw [hd1];omega
    have hfl:=Mk.Fo.len_bulk f'
    have htl:=Mk.Fo.lastT_bulk f'
    have hal:=(Below.refl wr.heap.size wr).alloc (Nat.le_refl _) (.cells #[.string (st n),.slice aoa a.length capa,.string (st t),.slice aok kk.len capk] 52)
    have PB:=Lib.hid (Blk.new wr 52 #[.string (st n),.slice aoa a.length capa,.string (st t),.slice aok kk.len capk])
    have OF1:=Lib.hid (OF.out.frame hal.size (fun b hb _=>hal.block b hb))
    have AP1:=Lib.hid (AP.out.trans (Ap.of_below hal))
    have HAL:=Lib.hid hal
    obtain ⟨ao0,cap0,hu0⟩:=own_slice OF.out.own
    have hbn : n = [] ∨ n.isEmpty = false:=by
     cases n with
     | nil=>exact .inl rfl
     | cons _ _=>exact .inr rfl
    clear hal HAT hva hvk hvk2 hvk3 keepK HJ AP hd hd1 hgm
    subst hu0
    go_upto_region 5 with fail
    generalize hw1 : wr.alloc (.cells #[.string (st n),.slice aoa a.length capa,.string (st t),.slice aok kk.len capk] 52) = w1 at PB OF1 AP1 HAL ⊢
    clear hw1 OF
    have p0 : w1.cell? ⟨wr.heap.size,0,none⟩ = some (.string (st n)):=Blk.cell PB.out 0
    have HBN:=Lib.hid hbn
    clear hbn c0 c1 c2 c3
    go_cut [31] (fun b wx=>b = .bool (f'.merges n)∧w1 = wx)
    case first =>
     rcases HBN.out with hn | hn
     ·by_cases hf0 : f' = .nil
      ·have HM : Hid (f'.merges n = false):=by show _ = _;rw [hf0,Mk.Fo.merges_nil]
       have hl0 : ¬ 0 < f'.len:=by rw [hf0];simp [Mk.Fo.len]
       have HN:=Lib.hid hn
       have he : n.isEmpty = true:=by rw [hn];rfl
       clear hn hf0
       go_wp2_with fail
       go_meet
       case rel=>exact ⟨by rw [HM.out],rfl⟩
      ·obtain ⟨g0,capz,hz,d1,d2,df⟩:=OF1.out.last hf0
       injection hz with z1 z2 z3
       subst z1
       subst z3
       have hl0 : 0 < f'.len:=Fo_len_pos f' hf0
       obtain ⟨j,hj⟩ : ∃ j,j = f'.len - 1:=⟨_,rfl⟩
       rw [← hj] at d1
       have hj1 : (f'.len : Int) - 1 = j:=by omega
       have hj2 : (j : Int) < f'.len:=by omega
       have hj3 : (0 : Int)≤j:=by omega
       have he : n.isEmpty = true:=by rw [hn];rfl
       have hbl : f'.lastN = [] ∨ f'.lastN.isEmpty = false:=by
        cases f'.lastN with
        | nil=>exact .inl rfl
        | cons _ _=>exact .inr rfl
       have HN:=Lib.hid hn
       have HF0:=Lib.hid hf0
       clear hj d2 df hn hf0
       rcases hbl with h1 | h1
       ·have HM : Hid (f'.merges n = true):=(Mk.Fo.merges_iff _ _).2 ⟨HN.out,HF0.out,h1⟩
        have he1 : f'.lastN.isEmpty = true:=by rw [h1];rfl
        clear h1
        go_wp2_with fail
        go_meet
        case rel=>exact ⟨by rw [HM.out],rfl⟩
       ·have HM : Hid (f'.merges n = false):=by
         show _ = _
         rw [Bool.eq_false_iff]
         intro q
         rw [((Mk.Fo.merges_iff _ _).1 q).2.2] at h1;cases h1
        go_wp2_with fail
        go_meet
        case rel=>exact ⟨by rw [HM.out],rfl⟩
     ·have HM : Hid (f'.merges n = false):=by
       show _ = _
       rw [Bool.eq_false_iff]
       intro q
       rw [((Mk.Fo.merges_iff _ _).1 q).1] at hn;cases hn
      go_wp2_with fail
      go_meet
      case rel=>exact ⟨by rw [HM.out],rfl⟩
    case rest =>
     obtain ⟨rfl,hw⟩:=hcut
     subst hw
     obtain ⟨mb,hmb⟩ : ∃ mb,f'.merges n = mb:=⟨_,rfl⟩
     rw [hmb]
     have HMB:=Lib.hid hmb
     clear hmb
     cases mb with
     | true =>
      have hq:=(Mk.Fo.merges_iff _ _).1 HMB.out
      obtain ⟨g0,capz,hz,d1,d2,df⟩:=OF1.out.last hq.2.1
      injection hz with z1 z2 z3
      subst z1
      subst z3
      have hl0 : 0 < f'.len:=Fo_len_pos f' hq.2.1
      have OFM:=Lib.hid (OF1.out.merged a t kk HMB.out (g:=g0) rfl)
      obtain ⟨j,hj⟩ : ∃ j,j = f'.len - 1:=⟨_,rfl⟩
      rw [← hj] at d1 d2 OFM
      have hj1 : (f'.len : Int) - 1 = j:=by omega
      have hj2 : (j : Int) < f'.len:=by omega
      have hj3 : (0 : Int)≤j:=by omega
      have p2 : w1.cell? ⟨wr.heap.size,2,none⟩ = some (.string (st t)):=Blk.cell PB.out 2
      have df2:=df (j * 4 + 2)
      have q1 : ¬ 9223372036854775807 < (st f'.lastT).size + (st t).size:=by rw [st_size,st_size];omega
      have hown : ∀ b,(Value.slice (some ⟨g0,0,none⟩) f'.len cap0).ownBlock = some b→b = g0:=fun b e=>by injection e with e;exact e.symm
      have HOB:=Lib.hid hown
      clear hj hq df hown
      go_wp2_with fail
      go_region
      have AP2 : Hid (Ap (fun b=>v.ownBlock = some b) w (w1.setCell ⟨g0,j * 4 + 2,none⟩ (.string (st (f'.lastT++t))))):=by
       rcases FR.out with e | ⟨b,e,hb⟩
       ·exact AP1.out.setCell (p:=⟨g0,j * 4 + 2,none⟩) (by rw [← e];rfl) _
       ·have e : some g0 = some b:=e
        injection e with e
        exact AP1.out.setNew (p:=⟨g0,j * 4 + 2,none⟩) (by rw [e];exact hb) _
      have OFM2 : Hid (OwnF (w1.setCell ⟨g0,j * 4 + 2,none⟩ (.string (st (f'.lastT++t)))) B K (.slice (some ⟨g0,0,none⟩) f'.len cap0) (Mk.Fo.snoc n a t kk f') (xs'.set (4 * j + 2) (.string (st (f'.lastT++t))))):=by
       have:=OFM.out
       rw [Nat.mul_comm 4 j] at this
       rw [Nat.mul_comm 4 j]
       exact this
      all_goals
       rw [show st f'.lastT++st t = st (f'.lastT++t) from app_st (st f'.lastT) (st t)]
       have OFM3:=Lib.hid (OFM2.out.frame (w':=(w1.setCell ⟨g0,j * 4 + 2,none⟩ (.string (st (f'.lastT++t)))).drew) (Nat.le_refl _) (fun _ _ _=>rfl))
       have AP3:=Lib.hid (AP2.out.drew)
       clear OFM OFM2 AP2 OF1 AP1 d1 d2 p2 df2
       go_wp2_with fail
       go_roundw
       case rel=>exact ⟨k + 1,_,_,by omega,by go_num,hbk2,HJ2,OFM3,AP3,FR⟩
       case measure=>simp [intOf];omega
     | false =>
      have p1 : w1.cell? ⟨wr.heap.size,1,none⟩ = some (.slice aoa a.length capa):=Blk.cell PB.out 1
      have p2 : w1.cell? ⟨wr.heap.size,2,none⟩ = some (.string (st t)):=Blk.cell PB.out 2
      have p3 : w1.cell? ⟨wr.heap.size,3,none⟩ = some (.slice aok kk.len capk):=Blk.cell PB.out 3
      obtain ⟨i0,hi,hz0,hz1,hz2⟩:=info_parts Tryz.infoNode
      have ow10:=own_ap' OF1.out.own ((Ap.refl (fun _=>False) w1).alloc (.cells #[.string (st n),.slice aoa a.length capa,.string (st t),.slice aok kk.len capk] 52)) (fun _ _ q=>q)
      have hal2:=(Below.refl w1.heap.size w1).alloc (Nat.le_refl _) (.cells #[.string (st n),.slice aoa a.length capa,.string (st t),.slice aok kk.len capk] 52)
      have hBs : B≤w1.heap.size:=Nat.le_trans hB AP1.out.size
      have hlf : f'.len≤1099511627776:=by omega
      go_wp2_with (at_builtin;refine wpList_append_fresh rfl _ _ 22 rfl B 52 i0 (.agg #[.string ⟨#[]⟩,.slice none 0 0,.string ⟨#[]⟩,.slice none 0 0]) 4 80 Tryz.underlying22 hi hz0 hz1 hz2 rfl (by decide) _ _ _ rfl ow10 ⟨w1.heap.size,0,none⟩ 1 1 [.string (st n),.slice aoa a.length capa,.string (st t),.slice aok kk.len capk] rfl rfl (cells_new _ _ _) (by intro u hu;simp at hu;rcases hu with rfl | rfl | rfl | rfl <;> rfl) (by decide) (by unfold maxLen;omega) (by omega) (by simp;omega) ?_)
      intro v' w2 hown' hgrow hfresh
      have hfr2 : v'.ownBlock = (Value.slice ao0 f'.len cap0).ownBlock ∨ v'.ownBlock = some (w1.alloc (.cells #[.string (st n),.slice aoa a.length capa,.string (st t),.slice aok kk.len capk] 52)).heap.size:=hfresh.imp id (fun e=>by rw [e];simp)
      have kp : ∀ b,K b→K b∧w1.heap[b]? = wr.heap[b]?:=fun b hb=>⟨hb,HAL.out.block b (Nat.lt_of_lt_of_le (hKw.out b hb) hsz)⟩
      have OFP:=Lib.hid (OF1.out.pushed (HVA.out.frame kp) (HVK.out.frame kp) hvk4 (HVF.out.frame kp) HMB.out hal2 hown' hgrow hfr2)
      have APP : Hid (Ap (fun b=>v.ownBlock = some b) w w2):=by
       refine (AP1.out.alloc (.cells #[.string (st n),.slice aoa a.length capa,.string (st t),.slice aok kk.len capk] 52)).grown hgrow (fun b hb e=>?_)
       rcases FR.out with q | ⟨b',q,hb'⟩
       ·rw [← q];exact e
       ·rw [q] at e;injection e with e;omega
      have FRP : Hid (freshOf w v v'):=by
       rcases hfr2 with e | e
       ·rcases FR.out with q | ⟨b',q,hb'⟩
        ·exact .inl (e.trans q)
        ·exact .inr ⟨b',e.trans q,hb'⟩
       ·exact .inr ⟨_,e,by have:=AP1.out.size;simp;omega⟩
      clear hown' hgrow hfresh hfr2 kp ow10 hal2 OF1 AP1 p0 p1 p2 p3 HVA HVK HVF
      go_wp2_with fail
      go_roundw
      case rel=>exact ⟨k + 1,_,_,by omega,by go_num,hbk2,HJ2,OFP,APP,FRP⟩
      case measure=>simp [intOf];omega
   ·have hke : k = g.len:=by omega
    rw [hke,Mk.Fo.drop_len] at HJ
    have HJ2 : Hid (f.joins g = f'):=HJ
    clear HJ HAT
    go_wp2_with fail
    go_ret
    exact ⟨_,_,rfl,by rw [HJ2.out];exact OF.out,AP.out,FR.out⟩
 ·subst hnil
  subst hv1
  obtain ⟨ao0,cap0,hu0⟩:=hvs
  subst hu0
  clear HAT
  go_enter Tryz.func97,Tryz.ntmps97
  go_wp2_with fail
  go_loopw [0,10] (fun u i wr=>u = .slice ao0 f.len cap0∧i = .int .i64 0∧wr = w) (fun _ _ _=>0)
  case atStart=>exact ⟨rfl,rfl,rfl⟩
  case round =>
   obtain ⟨rfl,rfl,rfl⟩:=hrel
   go_wp2_with fail
   go_ret
   exact ⟨_,_,rfl,HF.out,Ap.refl _ _,.inl rfl⟩
end Go.Proofs.YteidgdpaolieaaaGreatDoor
