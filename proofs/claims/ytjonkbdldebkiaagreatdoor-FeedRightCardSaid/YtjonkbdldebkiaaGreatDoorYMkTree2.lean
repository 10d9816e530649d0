/- Contracts of the program's above and stays: elements that stand in one another. Condition: at most 33554432 of them. -/
import Derived.Test.YtjonkbdldebkiaaGreatDoorYUrlD
import Derived.Test.YtjonkbdldebkiaaGreatDoorYMkTok2
import Derived.Test.YtjonkbdldebkiaaGreatDoorYUrlPlain
set_option linter.unusedVariables false
set_option linter.unusedSimpArgs false
set_option maxHeartbeats 4000000
set_option maxRecDepth 100000
namespace Mk
theorem q71 (x:Bs) (q:Bs→Bool) (l:List Bs):above x q (l.take 0)=none:=by simp[above,q0h]
theorem q3r (x:Bs) (q:Bs→Bool) (l:List Bs) (k:Nat) (h:k < l.length):above x q (l.take (k + 1))=if l[k]=x then some k else if q l[k] then none else above x q (l.take k):=by
 unfold above;rw[List.take_succ_eq_append_getElem h,List.reverse_append];show q0h x q (l[k] :: (l.take k).reverse)=_;rw[q0h,List.length_reverse,List.length_take,Nat.min_eq_left (by omega)]
theorem q59 (x:Bs) (q:Bs→Bool) (l:List Bs) (i:Nat) (h:above x q l=some i):i < l.length:=by
 have key:∀ k,k≤l.length→above x q (l.take k)=some i→i < k:=by
  intro k
  induction k with
  | zero=>intro _ h;rw[q71] at h;cases h
  | succ k ih =>
   intro hk h;rw[q3r x q l k (by omega)] at h
   split at h
   ·injection h with h;omega
   split at h
   ·cases h
   ·have:=ih (by omega) h;omega
 exact key l.length (Nat.le_refl _) (by rw[List.take_length];exact h)
end Mk
namespace Go.Proofs.YtjonkbdldebkiaaGreatDoor
open Go.RowKit
def z0f (l:List (List UInt8)):List Value:=l.map fun x=>.string (st x)
def z1d (w:World) (K:Nat→Prop) (v:Value) (l:List (List UInt8)):Prop:=∃ ao cap,v=.slice ao l.length cap∧l.length≤cap∧z2e w K ao (z0f l)∧cap≤maxLen
theorem z1d.frame {w w':World} {K K':Nat→Prop} {v:Value} {l:List (List UInt8)} (h:z1d w K v l) (hk:∀ b,K b→K' b∧w'.heap[b]? = w.heap[b]?):z1d w' K' v l:=by
 obtain⟨ao,cap,h1,h2,h3,h4⟩:=h;exact⟨ao,cap,h1,h2,h3.frame hk,h4⟩
theorem z1d.nil (w:World) (K:Nat→Prop):z1d w K (.slice none 0 0) []:=⟨none,0,rfl,Nat.le_refl _,.inl rfl,Nat.zero_le _⟩
theorem z1d.at_ {w:World} {K:Nat→Prop} {v:Value} {l:List (List UInt8)} (h:z1d w K v l):∃ ao cap,v=.slice ao l.length cap∧l.length≤cap∧cap≤maxLen∧(l=[]∨∃ g o,ao=some ⟨g,o,none⟩∧K g∧∀ k (hk:k < l.length),w.cell? ⟨g,o + k,none⟩=some (.string (st l[k]))):=by
 obtain⟨ao,cap,h1,h2,h3,h4⟩:=h;refine⟨ao,cap,h1,h2,h4,?_⟩
 rcases h3 with h3 | ⟨g,o,e1,e2,e3⟩
 ·left;simpa [z0f] using h3
 ·right
  exact⟨g,o,e1,e2,fun k hk=>e3 k _ (by simp[z0f,List.getElem?_eq_getElem hk])⟩
theorem z1d.take {w:World} {K:Nat→Prop} {ao:Option Addr} {cap:Nat} {l:List (List UInt8)} (h:z1d w K (.slice ao l.length cap) l) (i:Nat) (hi:i≤l.length):z1d w K (.slice ao i cap) (l.take i):=by
 obtain⟨ao',cap',h1,h2,h3,h4⟩:=h;injection h1 with e1 e2 e3;subst e1;subst e3;refine⟨ao,cap,by rw[List.length_take,Nat.min_eq_left hi],by rw[List.length_take];omega,?_,h4⟩
 rcases h3 with h3 | ⟨g,o,e1,e2,e3⟩
 ·left
  have:l=[]:=by simpa [z0f] using h3
  subst this;simp[z0f]
 ·refine .inr ⟨g,o,e1,e2,fun k v hk=>e3 k v ?_⟩
  unfold z0f at hk ⊢;rw[List.map_take] at hk;rw[List.getElem?_take] at hk
  split at hk
  ·exact hk
  ·cases hk
def optV:Option Nat→Value | none=>.int .i64 (-1) | some i=>.int .i64 i
def AsksS (g:FuncId) (q:List UInt8→Bool):Prop:=∀ (s:List UInt8) (w:World),Calls Tryz.prog g #[.string (st s)] w fun e w'=>e=.returned (.bool (q s))∧w'=w
theorem q6q (g:FuncId) (q:List UInt8→Bool) (eg:∀ args w,(callFunc g args).run Tryz.prog w=.ok (.enter g args) w) (hq:AsksS g q) (l:List (List UInt8)) (x:List UInt8) (v:Value) (K:Nat→Prop) (w:World) (hv:z1d w K v l) (hl:l.length≤33554432) :
  Calls Tryz.prog 192 #[v,.string (st x),.func (.func g) #[] #[]] w fun e w'=>e=.returned (optV (Mk.above x q l))∧w'=w:=by
 obtain⟨ao,cap,rfl,hcap,hcm,hat⟩:=hv.at_
 have HQ:=Lib.hid hq;have HA:=Lib.hid hat
 clear hq hat hv;go_enter Tryz.func192,Tryz.ntmps192;go_wp2_with fail
 go_loopw [7] (fun i wr=>∃ k:Nat,k≤l.length∧i=.int .i64 ((k:Int) - 1)∧wr=w∧Hid (Mk.above x q l=Mk.above x q (l.take k))) (fun i _=>(intOf i + 1).toNat)
 case atStart=>exact⟨l.length,Nat.le_refl _,by go_num,rfl,by show _=_;rw[List.take_length]⟩
 case round =>
  obtain⟨k,hk,rfl,rfl,HK⟩:=hrel
  cases k with
  | zero =>
   have HE:Hid (Mk.above x q l=none):=by show _=_;rw[HK.out,Mk.q71]
   clear HK;go_wp2_with fail;go_ret;exact⟨by rw[HE.out];rfl,rfl⟩
  | succ k =>
   have hlt:k < l.length:=by omega
   rcases HA.out with h0 | ⟨b,o,hao,_,hcl⟩
   ·rw[h0] at hlt;simp at hlt
   subst hao;have c0:=hcl k hlt;have HX:Hid (Mk.above x q l=if l[k]=x then some k else if q l[k] then none else Mk.above x q (l.take k)):=by show _=_;rw[HK.out,Mk.q3r x q l k hlt]
   have hst:∀ l:List UInt8,(st l).toList=l:=fun l=>Lib.toList_data _
   have hki:(((k + 1:Nat):Int) - 1)=(k:Int):=by omega
   rw[hki];have hk0:(0:Int)≤k:=by omega
   have hkl:(k:Int) < l.length:=by omega
   generalize l[k]=n at c0 HX;clear HK HA hcl hki
   by_cases hnx:n=x
   ·subst hnx
    have hb:(n == n)=true:=beq_self_eq_true n;rw[if_pos rfl] at HX;go_wp2_with fail;go_ret;exact⟨by rw[HX.out];rfl,rfl⟩
   ·rw[if_neg hnx] at HX
    have hb:(n == x)=false:=beq_eq_false_iff_ne.2 hnx;have hcall:=HQ.out n wr;generalize q n=bq at hcall HX;have HC:=Lib.hid hcall;clear hcall
    cases bq with
    | true =>
     go_wp2_with fail;refine HC.out.mono ?_;rintro e w1 ⟨rfl,rfl⟩;go_wp2_with fail;go_ret;exact⟨by rw[HX.out];rfl,rfl⟩
    | false =>
     go_wp2_with fail;refine HC.out.mono ?_;rintro e w1 ⟨rfl,rfl⟩;go_wp2_with fail;go_roundw
     case rel=>exact⟨k,by omega,by go_num,by trivial,by show _=_;rw[HX.out];rfl⟩
     case measure=>simp[intOf]

theorem eg_wall (args:Array Value) (w:World):(callFunc 241 args).run Tryz.prog w=.ok (.enter 241 args) w:=Z4 Tryz.func241 (by kernel_rfl) rfl _ _
theorem eg_list (args:Array Value) (w:World):(callFunc 242 args).run Tryz.prog w=.ok (.enter 242 args) w:=Z4 Tryz.func242 (by kernel_rfl) rfl _ _
def stays1 (l:List (List UInt8)) (n:List UInt8):List (List UInt8):=if Mk.z1p n then Mk.z9w l (Mk.above [112] Mk.z1i l) else l
def q4t (l:List (List UInt8)) (n:List UInt8):List (List UInt8):=if n == [108,105] then Mk.z9w l (Mk.above [108,105] Mk.z4r l) else l
theorem stays_is (l:List (List UInt8)) (n:List UInt8):Mk.stays l n=(q4t (stays1 l n) n).length:=rfl
theorem j7w (l:List (List UInt8)) (o:Option Nat):(Mk.z9w l o).length≤l.length:=by
 cases o with
 | none=>exact Nat.le_refl _
 | some k=>show (l.take k).length≤l.length;rw[List.length_take];exact Nat.min_le_right _ _
theorem q6s (l:List (List UInt8)) (n:List UInt8) (v:Value) (K:Nat→Prop) (w:World) (hv:z1d w K v l) (hl:l.length≤33554432) :
  Calls Tryz.prog 190 #[v,.string (st n)] w fun e w'=>e=.returned (.int .i64 (Mk.stays l n))∧w'=w:=by
 have hst:(st n).toList=n:=Lib.toList_data _;have HV:=Lib.hid hv;have hll:(stays1 l n).length≤33554432:=by unfold stays1;split;exact Nat.le_trans (j7w _ _) hl;exact hl
 clear hv;go_enter Tryz.func190,Tryz.ntmps190;go_wp2_with fail;refine(tr_block n w).mono ?_;rintro e w1 ⟨rfl,hw⟩;subst hw;go_upto_if 8 with fail
 go_cut [0] (fun v wx=>wx=w1∧Hid (z1d w1 K v (stays1 l n)))
 case first =>
  cases hbl:Mk.z1p n with
  | false =>
   have HV1:Hid (z1d w1 K v (stays1 l n)):=by show z1d _ _ _ _;rw[stays1,hbl];exact HV.out
   clear hbl;go_wp2_with fail;go_meet
   case rel=>exact⟨rfl,HV1⟩
  | true =>
   have ha:=q6q 241 Mk.z1i eg_wall y0p l [112] v K w1 HV.out hl;obtain⟨o,ho⟩:∃ o,Mk.above [112] Mk.z1i l=o:=⟨_,rfl⟩;have h1:stays1 l n=Mk.z9w l o:=by rw[stays1,hbl,if_pos rfl,ho]
   have hlt:=Mk.q59 [112] Mk.z1i l;rw[ho] at ha hlt;have HA:=Lib.hid ha;have H1:=Lib.hid h1;clear ha h1 hbl ho
   cases o with
   | none =>
    clear hlt;go_wp2_with fail;refine HA.out.mono ?_;rintro e w2 ⟨rfl,hw⟩;subst hw;unfold optV;go_wp2_with fail;go_meet
    case rel=>exact⟨rfl,by rw[H1.out];exact HV⟩
   | some i =>
    have hi:=hlt i rfl;obtain⟨ao,cap,rfl,hcap,hcm,_⟩:=HV.out.at_
    have HT:=Lib.hid (HV.out.take i (by omega));clear hlt;go_wp2_with fail;refine HA.out.mono ?_;rintro e w2 ⟨rfl,hw⟩;subst hw;unfold optV;have hi0:(0:Int)≤i:=by omega
    have hic:(i:Int)≤cap:=by omega
    go_wp2_with fail;go_meet
    case rel=>exact⟨rfl,by rw[H1.out];exact HT⟩
 case rest =>
  obtain⟨hw,HV1⟩:=hcut;subst hw;have hs2:=stays_is l n;generalize stays1 l n=l1 at HV1 hll hs2;have HS2:=Lib.hid hs2;clear hs2;go_upto_if 17 with fail
  go_cut [0] (fun v wx=>wx=wc∧Hid (z1d wc K v (q4t l1 n)))
  case first =>
   cases hbl:(n == [108,105]) with
   | false =>
    have HV2:Hid (z1d wc K u0 (q4t l1 n)):=by show z1d _ _ _ _;rw[q4t,hbl];exact HV1.out
    clear HV;go_wp2_with fail;go_meet
    case rel=>exact⟨rfl,HV2⟩
   | true =>
    have ha:=q6q 242 Mk.z4r eg_list tr_list l1 [108,105] u0 K wc HV1.out hll;obtain⟨o,ho⟩:∃ o,Mk.above [108,105] Mk.z4r l1=o:=⟨_,rfl⟩;have h1:q4t l1 n=Mk.z9w l1 o:=by rw[q4t,hbl,if_pos rfl,ho]
    have hlt:=Mk.q59 [108,105] Mk.z4r l1;rw[ho] at ha hlt;have HA:=Lib.hid ha;have H1:=Lib.hid h1;clear ha h1 ho HV
    cases o with
    | none =>
     clear hlt;go_wp2_with fail;refine HA.out.mono ?_;rintro e w2 ⟨rfl,hw⟩;subst hw;unfold optV;go_wp2_with fail;go_meet
     case rel=>exact⟨rfl,by rw[H1.out];exact HV1⟩
    | some i =>
     have hi:=hlt i rfl;obtain⟨ao,cap,rfl,hcap,hcm,_⟩:=HV1.out.at_
     have HT:=Lib.hid (HV1.out.take i (by omega));clear hlt;go_wp2_with fail;refine HA.out.mono ?_;rintro e w2 ⟨rfl,hw⟩;subst hw;unfold optV;have hi0:(0:Int)≤i:=by omega
     have hic:(i:Int)≤cap:=by omega
     go_wp2_with fail;go_meet
     case rel=>exact⟨rfl,by rw[H1.out];exact HT⟩
  case rest =>
   obtain⟨hw,HV2⟩:=hcut;subst hw;obtain⟨ao,cap,rfl,hcap,hcm,_⟩:=HV2.out.at_
   go_wp2_with fail;go_ret;exact⟨by rw[HS2.out];rfl,rfl⟩
end Go.Proofs.YtjonkbdldebkiaaGreatDoor
namespace Mk
namespace Fo
def drop:Fo→Nat→Fo
 | f,0=>f
 | nil,_ + 1=>nil
 | node _ _ _ _ r,k + 1=>drop r k
def atB (l:List At):Nat:=(l.map fun a=>1 + a.n.length + a.v.length).sum
def bulk:Fo→Nat
 | nil=>0
 | node n a t k r=>1 + n.length + t.length + atB a + bulk k + bulk r
theorem drop_zero (f:Fo):drop f 0=f:=by cases f <;> rfl
theorem z2q:∀ (f:Fo),drop f f.len=nil
 | nil=>rfl
 | node _ _ _ _ r=>by show drop r r.len=nil;exact z2q r
theorem z3a:∀ (f:Fo) (k:Nat),k < f.len→∃ n a t kk r,drop f k=node n a t kk r∧drop f (k + 1)=r
 | nil,k,h=>absurd h (Nat.not_lt_zero _)
 | node n a t kk r,0,_=>⟨n,a,t,kk,r,rfl,by show drop r 0=r;exact drop_zero r⟩
 | node n a t kk r,k + 1,h=>by
  obtain⟨n',a',t',k',r',h1,h2⟩:=z3a r k (by simp[len] at h;omega);exact⟨n',a',t',k',r',h1,h2⟩
theorem z0s:∀ (f:Fo) (k:Nat),bulk (drop f k)≤bulk f
 | f,0=>by rw[drop_zero];exact Nat.le_refl _
 | nil,_ + 1=>Nat.le_refl _
 | node n a t kk r,k + 1=>by
  have:=z0s r k;show bulk (drop r k)≤1 + n.length + t.length + atB a + bulk kk + bulk r;omega
theorem j8c (f:Fo) (k:Nat):(drop f k).len=f.len - k:=by
 induction k generalizing f with
 | zero=>rw[drop_zero];rfl
 | succ k ih =>
  cases f with
  | nil=>simp[drop,len]
  | node n a t kk r=>show (drop r k).len=r.len + 1 - (k + 1);rw[ih];omega
theorem z0k:∀ f:Fo,f.len≤bulk f
 | nil=>Nat.le_refl _
 | node n a t kk r=>by have:=z0k r;show r.len + 1≤1 + n.length + t.length + atB a + bulk kk + bulk r;omega
end Fo
theorem z1u (l:List At):l.length≤Fo.atB l:=by
 induction l with
 | nil=>exact Nat.le_refl _
 | cons a t ih=>simp[Fo.atB] at ih ⊢;omega
theorem z9s {l:List At} {a:At} (h:a ∈ l):1 + a.n.length + a.v.length≤Fo.atB l:=by
 induction l with
 | nil=>cases h
 | cons b t ih =>
  rcases List.mem_cons.1 h with e | e
  ·subst e;simp[Fo.atB]
  ·have:=ih e;simp[Fo.atB] at this ⊢;omega
theorem j5u (m:Nat) (a:List At) (t:Bs) (k r:Fo):z0u m (.node [] a t k r)=((z0u m r).1 + 1,(z0u m r).2):=by cases m <;> rfl
theorem j5v {n:Bs} (hn:n ≠ []) (a:List At) (t:Bs) (k r:Fo):z0u 0 (.node n a t k r)=((z0u 0 r).1 + 1,max 1 (z0u 0 r).2):=by
 rw[z0u];simp[hn]
theorem j5t {n:Bs} (hn:n ≠ []) (m:Nat) (a:List At) (t:Bs) (k r:Fo):z0u (m + 1) (.node n a t k r)=((z0u (m + 1) r).1 + 1 + (z0u m k).1,max (max 1 ((z0u m k).2 + 1)) (z0u (m + 1) r).2):=by
 rw[z0u];simp[hn]
theorem q0a:∀ (m:Nat) (f:Fo),(z0u m f).1≤Fo.bulk f∧(z0u m f).2≤m + 1:=by
 intro m
 induction m with
 | zero =>
  intro f
  induction f with
  | nil=>exact⟨Nat.le_refl _,by simp[z0u]⟩
  | node n a t k r _ ihr =>
   unfold z0u Fo.bulk;simp only
   split
   ·exact⟨by simp only;omega,ihr.2⟩
   ·exact⟨by simp only;omega,by simp only;omega⟩
 | succ m ihm =>
  intro f
  induction f with
  | nil=>exact⟨Nat.le_refl _,by simp[z0u]⟩
  | node n a t k r _ ihr =>
   have hk:=ihm k;unfold z0u Fo.bulk;simp only
   split
   ·exact⟨by simp only;omega,ihr.2⟩
   ·exact⟨by simp only;omega,by simp only;omega⟩
end Mk
namespace Go.Proofs.YtjonkbdldebkiaaGreatDoor
open Go.RowKit
theorem Y4.at_ {w:World} {K:Nat→Prop}:∀ {f:Mk.Fo} {xs:List Value},Y4 w K f xs→∀ {k:Nat} {n:List UInt8} {a:List Mk.At} {t:List UInt8} {kk r:Mk.Fo},f.drop k=.node n a t kk r →
  ∃ va ao cap zs,xs[4 * k]? = some (.string (st n))∧xs[4 * k + 1]? = some va∧xs[4 * k + 2]? = some (.string (st t))∧xs[4 * k + 3]? = some (.slice ao kk.len cap)∧AtsV w K va a∧z2e w K ao zs∧kk.len≤maxLen∧Y4 w K kk zs
 | .nil,_,_,k,_,_,_,_,_,hd=>by cases k <;> cases hd
 | .node n' a' t' k' r',xs,h,0,n,a,t,kk,r,hd=>by
  obtain⟨va,ao,cap,zs,ys,h1,h2,h3,h4,h5,h6⟩:=h;rw[Mk.Fo.drop_zero] at hd;injection hd with e1 e2 e3 e4 e5;subst e1;subst e2;subst e3;subst e4;subst e5;exact⟨va,ao,cap,zs,by rw[h1];rfl,by rw[h1];rfl,by rw[h1];rfl,by rw[h1];rfl,h2,h3,h4,h5⟩
 | .node n' a' t' k' r',xs,h,k + 1,n,a,t,kk,r,hd=>by
  obtain⟨va',ao',cap',zs',ys,h1,_,_,_,_,h6⟩:=h;have hd':r'.drop k=.node n a t kk r:=hd;obtain⟨va,ao,cap,zs,g1,g2,g3,g4,g5⟩:=Y4.at_ h6 hd'
  have sh:∀ i v,ys[i]? = some v→xs[i + 4]? = some v:=by
   intro i v hi;rw[h1,List.getElem?_append_right (by simp)]
   simpa using hi
  exact⟨va,ao,cap,zs,by rw[show 4 * (k + 1)=4 * k + 4 by omega];exact sh _ _ g1,by rw[show 4 * (k + 1) + 1=4 * k + 1 + 4 by omega];exact sh _ _ g2,by rw[show 4 * (k + 1) + 2=4 * k + 2 + 4 by omega];exact sh _ _ g3,by rw[show 4 * (k + 1) + 3=4 * k + 3 + 4 by omega];exact sh _ _ g4,g5⟩
theorem FoV.at_ {w:World} {K:Nat→Prop} {v:Value} {f:Mk.Fo} (h:FoV w K v f):∃ g o cap,((v=.slice (some ⟨g,o,none⟩) f.len cap∧K g)∨∃ ao,v=.slice ao 0 cap∧f=.nil)∧f.len≤maxLen ∧
  ∀ k n a t kk r,f.drop k=.node n a t kk r→∃ va vk,w.cell? ⟨g,o + k * 4,none⟩=some (.string (st n))∧w.cell? ⟨g,o + k * 4 + 1,none⟩=some va∧w.cell? ⟨g,o + k * 4 + 2,none⟩=some (.string (st t))∧w.cell? ⟨g,o + k * 4 + 3,none⟩=some vk∧AtsV w K va a∧FoV w K vk kk:=by
 obtain⟨ao,cap,xs,h1,h2,h3,h4⟩:=h
 rcases h2 with h2 | ⟨g,o,e1,e2,e3⟩
 ·have hl:=h3.length
  rw[h2] at hl;have:f=.nil:=by
   cases f with
   | nil=>rfl
   | node _ _ _ _ _=>simp[Mk.Fo.len] at hl
  subst this;exact⟨0,0,cap,.inr ⟨ao,h1,rfl⟩,h4,fun k n a t kk r hd=>by cases k <;> cases hd⟩
 ·refine⟨g,o,cap,.inl ⟨by rw[h1,e1],e2⟩,h4,fun k n a t kk r hd=>?_⟩
  obtain⟨va,ao',cap',zs,g1,g2,g3,g4,g5,g6,g7,g8⟩:=h3.at_ hd
  rw[Nat.mul_comm k 4];exact⟨va,_,e3 _ _ g1,by rw[Nat.add_assoc];exact e3 _ _ g2,by rw[Nat.add_assoc];exact e3 _ _ g3,by rw[Nat.add_assoc];exact e3 _ _ g4,g5,ao',cap',zs,rfl,g6,g8,g7⟩
theorem FoV.below {w w':World} {K:Nat→Prop} {v:Value} {f:Mk.Fo} {B:Nat} (h:FoV w K v f) (hK:∀ b,K b→b < B) (hb:Below B w w'):FoV w' K v f:=h.frame fun b hk=>⟨hk,hb.block b (hK b hk)⟩
theorem AtsV.below {w w':World} {K:Nat→Prop} {v:Value} {f:List Mk.At} {B:Nat} (h:AtsV w K v f) (hK:∀ b,K b→b < B) (hb:Below B w w'):AtsV w' K v f:=h.frame fun b hk=>⟨hk,hb.block b (hK b hk)⟩
theorem z1d.below {w w':World} {K:Nat→Prop} {v:Value} {f:List (List UInt8)} {B:Nat} (h:z1d w K v f) (hK:∀ b,K b→b < B) (hb:Below B w w'):z1d w' K v f:=h.frame fun b hk=>⟨hk,hb.block b (hK b hk)⟩

theorem tr_Size (N:Nat):∀ (f:Mk.Fo) (m:Nat) (v:Value) (K:Nat→Prop) (w:World),f.bulk < N→f.bulk≤33554432→m≤8→FoV w K v f→(∀ b,K b→b < w.heap.size) →
  Calls Tryz.prog 101 #[v,.int .i64 m] w fun e w'=>e=.returned (.tuple #[.int .i64 (Mk.z0u m f).1,.int .i64 (Mk.z0u m f).2])∧Below w.heap.size w w':=by
 induction N with
 | zero =>
  intro f m v K w hN;omega
 | succ N ih =>
  intro f m v K w hN hf hm hv hK;obtain⟨g,o,cap,hv1,hlen,hat⟩:=hv.at_
  have HAT:=Lib.hid hat
  clear hat
  have hfl:=Mk.Fo.z0k f
  rcases hv1 with ⟨hv1,hKg⟩ | ⟨ao,hv1,hnil⟩
  ·have hgl:=hK g hKg
   subst hv1;go_enter Tryz.func101,Tryz.ntmps101;go_wp2_with fail
   go_loopw [6,7,16] (fun a b i wr=>∃ k many deep:Nat,k≤f.len∧i=.int .i64 k∧a=.int .i64 many∧b=.int .i64 deep∧many + (Mk.z0u m (f.drop k)).1=(Mk.z0u m f).1 + (f.drop k).len∧max deep (Mk.z0u m (f.drop k)).2=(Mk.z0u m f).2∧Hid (Below w.heap.size w wr)) (fun _ _ i _=>f.len - (intOf i).toNat)
   case atStart=>exact⟨0,f.len,0,Nat.zero_le _,rfl,rfl,rfl,by rw[Mk.Fo.drop_zero,Nat.add_comm],by rw[Mk.Fo.drop_zero,Nat.zero_max],Below.refl _ _⟩
   case round =>
    obtain⟨k,many,deep,hk,rfl,rfl,rfl,h1,h2,BL⟩:=hrel;have hsz:=BL.out.size
    by_cases hlt:k < f.len
    ·obtain⟨n,a,t,kk,r,hd,hd1⟩:=Mk.Fo.z3a f k hlt
     obtain⟨va,vk,c0,c1,c2,c3,hva,hvk⟩:=HAT.out k n a t kk r hd;rw[← BL.out.cell (p:=⟨g,_,none⟩) hgl] at c0 c1 c2 c3;have hdb:=Mk.Fo.z0s f k;rw[hd] at hdb h1 h2;have hkb:kk.bulk + r.bulk + 1≤f.bulk:=by
      have e:(Mk.Fo.node n a t kk r).bulk=1 + n.length + t.length + Mk.Fo.atB a + kk.bulk + r.bulk:=rfl;omega
     have hrl:=Mk.Fo.z0k r;have hlr:(Mk.Fo.node n a t kk r).len=r.len + 1:=rfl;obtain⟨aoa,capa,hva1,_⟩:=hva;obtain⟨aok,capk,xsk,hvk1,hvk2⟩:=hvk;subst hva1;subst hvk1;have hst:∀ l:List UInt8,(st l).toList=l:=fun l=>Lib.toList_data _
     have hsb:=Mk.q0a m f;have hal:=(Below.refl wr.heap.size wr).alloc (Nat.le_refl _) (.cells #[.string (st n),.slice aoa a.length capa,.string (st t),.slice aok kk.len capk] 53);have BL1:=Lib.hid (BL.out.trans (hal.mono hsz))
     by_cases hn:n=[]
     ·subst hn
      have hst0:(st []).toList=[]:=Lib.toList_data _;rw[Mk.j5u] at h1 h2;simp only at h1 h2;clear HAT hal hd;go_wp2_with fail;go_roundw
      case rel=>exact⟨k + 1,many,deep,by omega,by go_num,rfl,rfl,by rw[hd1];omega,by rw[hd1];exact h2,BL1⟩
      case measure=>simp[intOf];omega
     ·have he:n.isEmpty=false:=by
       cases n with
       | nil=>exact absurd rfl hn
       | cons _ _=>rfl
      have hmx:max (deep:Int) 1=((max deep 1:Nat):Int):=by omega
      by_cases hm0:m=0
      ·subst hm0
       rw[Mk.j5v hn] at h1 h2;simp only at h1 h2;clear HAT hal hd;go_wp2_with fail;go_roundw
       case rel=>exact⟨k + 1,many,max deep 1,by omega,by go_num,rfl,by rw[← hmx],by rw[hd1];omega,by rw[hd1];omega,BL1⟩
       case measure=>simp[intOf];omega
      ·obtain⟨m',hm1⟩:∃ m',m=m' + 1:=⟨m - 1,by omega⟩
       have hss:=Mk.j5t hn m' a t kk r;rw[← hm1] at hss;rw[hss] at h1 h2;have hmm:(m:Int) - 1=m':=by omega
       have hmi:((m:Int) == 0)=false:=by rw[beq_eq_false_iff_ne];omega
       have HM1:=Lib.hid hm1;have hfk:FoV w K (.slice aok kk.len capk) kk:=⟨aok,capk,xsk,rfl,hvk2⟩;have hrec:=ih kk m' (.slice aok kk.len capk) K (wr.alloc (.cells #[.string (st n),.slice aoa a.length capa,.string (st t),.slice aok kk.len capk] 53)) (by omega) (by omega) (by have:=HM1.out;omega) (hfk.below hK BL1.out) (fun b hb=>Nat.lt_of_lt_of_le (hK b hb) BL1.out.size);have hsk:=Mk.q0a m' kk;generalize Mk.z0u m' kk=y at hrec h1 h2 hsk;obtain⟨y1,y2⟩:=y;simp only at h1 h2 hrec hsk;have HREC:=Lib.hid hrec;have hmx2:max (((max deep 1:Nat):Int)) ((y2:Int) + 1)=((max (max deep 1) (y2 + 1):Nat):Int):=by omega
       clear HAT hal hd hrec hfk hvk2 hm1 hss;go_wp2_with fail;refine HREC.out.mono ?_;rintro e w2 ⟨rfl,hb2⟩;have BL2:=Lib.hid (BL1.out.trans (hb2.mono BL1.out.size));have hdp:deep≤9:=by have:=HM1.out;omega
       clear hb2 HREC BL1;go_wp2_with fail;go_roundw
       case rel=>exact⟨k + 1,many + y1,max (max deep 1) (y2 + 1),by omega,by go_num,by go_num,by congr 1;omega,by rw[hd1];omega,by rw[hd1];omega,BL2⟩
       case measure=>simp[intOf];omega
    ·have hke:k=f.len:=by omega
     rw[hke,Mk.Fo.z2q] at h1 h2;have h1':many=(Mk.z0u m f).1:=by simpa [Mk.z0u,Mk.Fo.len] using h1
     have h2':deep=(Mk.z0u m f).2:=by simpa [Mk.z0u] using h2
     have H1:=Lib.hid h1';have H2:=Lib.hid h2';clear h1 h2 h1' h2' HAT;go_wp2_with fail;go_ret2;exact⟨by rw[H1.out,H2.out];rfl,BL.out⟩
  ·subst hnil
   subst hv1;clear HAT;go_enter Tryz.func101,Tryz.ntmps101;go_wp2_with fail
   go_loopw [6,7,16] (fun a b i wr=>a=.int .i64 0∧b=.int .i64 0∧i=.int .i64 0∧wr=w) (fun _ _ _ _=>0)
   case atStart=>exact⟨rfl,rfl,rfl,rfl⟩
   case round =>
    obtain⟨rfl,rfl,rfl,rfl⟩:=hrel;go_wp2_with fail;go_ret2;exact⟨by cases m <;> rfl,Below.refl _ _⟩
end Go.Proofs.YtjonkbdldebkiaaGreatDoor
namespace Mk
theorem z8y (q:Bs→Bool) (l:List At) (k:Nat) (h:k < l.length):Q9 q (l.take k) (l.drop k)=if !q l[k].n then 1 else if z0x (l.take k) l[k].n then 6 else Q9 q (l.take (k + 1)) (l.drop (k + 1)):=by
 rw[List.drop_eq_getElem_cons h,List.take_succ_eq_append_getElem h];rfl
end Mk
namespace Go.Proofs.YtjonkbdldebkiaaGreatDoor
open Go.RowKit
theorem AtsV.take {w:World} {K:Nat→Prop} {ao:Option Addr} {cap:Nat} {l:List Mk.At} (h:AtsV w K (.slice ao l.length cap) l) (i:Nat) (hi:i≤l.length):AtsV w K (.slice ao i cap) (l.take i):=by
 obtain⟨ao',cap',h1,h2,h3,h4⟩:=h;injection h1 with e1 e2 e3;subst e1;subst e3;refine⟨ao,cap,by rw[List.length_take,Nat.min_eq_left hi],?_,by rw[List.length_take];omega,by rw[List.length_take];omega⟩
 rcases h2 with h2 | ⟨g,o,e1,e2,e3⟩
 ·left
  have:l=[]:=List.eq_nil_of_length_eq_zero (by have:=z8i l;rw[h2] at this;simp at this;omega);subst this;simp[J3]
 ·refine .inr ⟨g,o,e1,e2,fun k v hk=>e3 k v ?_⟩
  have hsplit:J3 l=J3 (l.take i)++J3 (l.drop i):=by
   rw[J3,J3,J3,← List.flatMap_append,List.take_append_drop]
  rw[hsplit,List.getElem?_append_left]
  ·exact hk
  ·rcases Nat.lt_or_ge k (J3 (l.take i)).length with q | q
   ·exact q
   ·rw[List.getElem?_eq_none q] at hk;cases hk
theorem q1s (P:Nat) (nm:List UInt8) (l:List Mk.At) (w:World) (hP:P < w.heap.size) (hc:w.cell? ⟨P,0,none⟩=some (.string (st nm))):q70 219 #[.pointer (some ⟨P,0,none⟩)] (fun a=>a.n == nm) l w:=by
 intro w1 hb a _;have c0:w1.cell? ⟨P,0,none⟩=some (.string (st nm)):=(hb.cell (p:=⟨P,0,none⟩) hP).trans hc;have hP1:P < w1.heap.size:=Nat.lt_of_lt_of_le hP hb.size;unfold atV;go_enter Tryz.func219,Tryz.ntmps219;go_wp2_with fail;go_ret;exact⟨Z7 (by rw[show (st a.n).toList=a.n from Lib.toList_data _,show (st nm).toList=nm from Lib.toList_data _]),(Below.refl _ w1).alloc (Nat.le_refl _) _⟩
theorem q7h (args:Array Value) (w:World):(callFunc 219 args).run Tryz.prog w=.ok (.enter 219 args) w:=Z4 Tryz.func219 (by kernel_rfl) rfl _ _
theorem j8e (args:Array Value) (w:World):(callFunc 188 args).run Tryz.prog w=.ok (.enter 188 args) w:=Z4 Tryz.func188 (by kernel_rfl) rfl _ _

theorem q65 (l:List Mk.At) (v:Value) (K:Nat→Prop) (w:World) (hv:AtsV w K v l) (hK:∀ b,K b→b < w.heap.size) (hl:Mk.Fo.atB l≤33554432) :
  Calls Tryz.prog 168 #[v,.func (.func 188) #[] #[]] w fun e w'=>e=.returned (.int .i64 (Mk.Q9 Mk.isName [] l))∧Below w.heap.size w w':=by
 have hll:=Mk.z1u l;obtain⟨b,o,cap,hKb,hv1,hcl⟩:=hv.at_
 have HC:=Lib.hid hcl;have EG:=Lib.hid j8e;clear hcl;have eg:=j8e
 rcases hv1 with hv1 | ⟨ao,hv1,hl0⟩
 ·subst hv1
  have hcap:l.length≤cap:=by
   obtain⟨ao',cap',h1,_,h3,_⟩:=hv;injection h1 with _ _ e3;rw[e3];exact h3
  go_enter Tryz.func168,Tryz.ntmps168;go_wp2_with fail
  go_loopw [9] (fun i wr=>∃ k:Nat,k≤l.length∧i=.int .i64 k∧Hid (Mk.Q9 Mk.isName [] l=Mk.Q9 Mk.isName (l.take k) (l.drop k))∧Hid (Below w.heap.size w wr)) (fun i _=>l.length - (intOf i).toNat)
  case atStart=>exact⟨0,Nat.zero_le _,rfl,rfl,Below.refl _ _⟩
  case round =>
   obtain⟨k,hk,rfl,HA,BL⟩:=hrel;have hsz:=BL.out.size
   by_cases hlt:k < l.length
   ·have hb:b < w.heap.size:=hK b (hKb (by intro e;subst e;simp at hlt))
    obtain⟨c0,c1⟩:=HC.out k hlt;rw[← BL.out.cell (p:=⟨b,_,none⟩) hb] at c0 c1;have hmem:=Mk.z9s (List.getElem_mem hlt);have HD:Hid (Mk.Q9 Mk.isName [] l=if !Mk.isName l[k].n then 1 else if Mk.z0x (l.take k) l[k].n then 6 else Mk.Q9 Mk.isName (l.take (k + 1)) (l.drop (k + 1))):=by show _=_;rw[HA.out,Mk.z8y _ _ _ hlt]
    generalize l[k]=a at c0 c1 HD hmem;have hnm:=fun W=>z8n (st a.n) W (by rw[y9];omega)
    rw[z0y] at hnm;have hal:=(Below.refl wr.heap.size wr).alloc (Nat.le_refl _) (.cells #[.string (st a.n),.string (st a.v)] 56);have PB:=Lib.hid (Blk.new wr 56 #[.string (st a.n),.string (st a.v)]);have BL1:=Lib.hid (BL.out.trans (hal.mono hsz))
    cases hin:Mk.isName a.n with
    | false =>
     rw[hin] at HD hnm;have HN:=Lib.hid hnm;clear hnm hin HC HA hal;go_wp2_with fail;refine(HN.out _).mono ?_;rintro e w2 ⟨rfl,rfl⟩;go_wp2_with fail;go_ret;exact⟨by rw[HD.out];rfl,BL1.out⟩
    | true =>
     rw[hin] at HD hnm;have HN:=Lib.hid hnm;obtain⟨hh,hhe⟩:∃ hh,Mk.z0x (l.take k) a.n=hh:=⟨_,rfl⟩;rw[hhe] at HD;have hvw:AtsV (wr.alloc (.cells #[.string (st a.n),.string (st a.v)] 56)) K (.slice (some ⟨b,o,none⟩) k cap) (l.take k):=(AtsV.take hv k hk).below hK BL1.out;have hcf:=z1c 219 #[.pointer (some ⟨wr.heap.size,0,none⟩)] (fun x=>x.n == a.n) q7h (l.take k) (.slice (some ⟨b,o,none⟩) k cap) K _ hvw (fun b hb=>Nat.lt_of_lt_of_le (hK b hb) BL1.out.size) (by rw[List.length_take];omega) (q1s wr.heap.size a.n (l.take k) _ (Blk.lt PB.out) (Blk.cell PB.out 0));rw[show (l.take k).any (fun x=>x.n == a.n)=hh from hhe] at hcf;have HCF:=Lib.hid hcf;have hkc:(k:Int)≤cap:=by omega
     have hk0:(0:Int)≤k:=by omega
     clear hnm hin HC HA hal hvw hcf hhe
     cases hh with
     | true =>
      go_wp2_with fail;refine(HN.out _).mono ?_;rintro e w2 ⟨rfl,rfl⟩;go_wp2_with fail;refine HCF.out.mono ?_;rintro e w3 ⟨rfl,hb3⟩;have BL3:=Lib.hid (BL1.out.trans (hb3.mono BL1.out.size));clear hb3 HCF;go_wp2_with fail;go_ret;exact⟨by rw[HD.out];rfl,BL3.out⟩
     | false =>
      go_wp2_with fail;refine(HN.out _).mono ?_;rintro e w2 ⟨rfl,rfl⟩;go_wp2_with fail;refine HCF.out.mono ?_;rintro e w3 ⟨rfl,hb3⟩;have BL3:=Lib.hid (BL1.out.trans (hb3.mono BL1.out.size));clear hb3 HCF;go_wp2_with fail;go_roundw
      case rel=>exact⟨k + 1,by omega,by go_num,by show _=_;rw[HD.out];rfl,BL3⟩
      case measure=>simp[intOf];omega
   ·have hke:k=l.length:=by omega
    have HE:Hid (Mk.Q9 Mk.isName [] l=0):=by show _=_;rw[HA.out,List.drop_of_length_le (by omega)];rfl
    clear HA HC;go_wp2_with fail;go_ret;exact⟨by rw[HE.out];rfl,BL.out⟩
 ·subst hl0
  subst hv1;clear HC hK;go_enter Tryz.func168,Tryz.ntmps168;go_wp2_with fail
  go_loopw [9] (fun i wr=>i=.int .i64 0∧wr=w) (fun _ _=>0)
  case atStart=>exact⟨rfl,rfl⟩
  case round =>
   obtain⟨rfl,rfl⟩:=hrel;go_wp2_with fail;go_ret;exact⟨rfl,Below.refl _ _⟩
def V4 (n:List UInt8) (va:Value) (t:List UInt8) (vk:Value):Value:=.agg #[.string (st n),va,.string (st t),vk]
theorem z1o (k:Mk.Fo) (h:k ≠ .nil):0 < k.len:=by
 cases k with
 | nil=>exact absurd rfl h
 | node _ _ _ _ _=>exact Nat.succ_pos _
theorem tr_node (names:List (List UInt8)) (n t:List UInt8) (a:List Mk.At) (k:Mk.Fo) (va vk vn:Value) (K:Nat→Prop) (w:World) (hva:AtsV w K va a) (hvk:FoV w K vk k) (hvn:z1d w K vn names) (hK:∀ b,K b→b < w.heap.size) (hnl:n.length≤33554432) (hl:Mk.Fo.atB a≤33554432) (hnm:names.length≤33554432) :
  Calls Tryz.prog 194 #[V4 n va t vk,vn] w fun e w'=>e=.returned (.int .i64 (Mk.z0t names n a t k))∧Below w.heap.size w w':=by
 have hst:∀ l:List UInt8,(st l).toList=l:=fun l=>Lib.toList_data _
 obtain⟨aoa,capa,hva1,hva2⟩:=id hva;obtain⟨aok,capk,xsk,hvk1,hvk2⟩:=id hvk;subst hva1;subst hvk1;have hll:=Mk.z1u a;have hkl:=hvk2.2.2;have hkm:(maxLen:Int)≤9223372036854775807:=by unfold maxLen;omega
 have hal:=(Below.refl w.heap.size w).alloc (Nat.le_refl _) (.cells #[.string (st n),.slice aoa a.length capa,.string (st t),.slice aok k.len capk] 53);have AL:=Lib.hid hal;clear hal hvk2 hvk;unfold V4;generalize hla:a.length=la at *;generalize hlk:k.len=lk at *;have HLA:=Lib.hid hla;have HLK:=Lib.hid hlk;clear hla hlk hkl;have tE:∀ l:List UInt8,l ≠ []→l.isEmpty=false:=fun l h=>by
  cases l with
  | nil=>exact absurd rfl h
  | cons _ _=>rfl
 have TE:=Lib.hid tE;clear tE
 by_cases hn:n=[]
 ·subst hn
  have hst0:(st []).toList=[]:=Lib.toList_data _;have e0:([]:List UInt8).isEmpty=true:=rfl
  by_cases ht:t=[]
  ·have HE:Hid (Mk.z0t names [] a t k=1):=by show _=_;simp[Mk.z0t,ht]
   subst ht;go_enter Tryz.func194,Tryz.ntmps194;go_wp2_with fail;go_ret;exact⟨Y8 (by rw[HE.out]),AL.out⟩
  ·have ht2:=TE.out t ht
   by_cases ha:a=[]
   ·by_cases hk:k=.nil
    ·have HE:Hid (Mk.z0t names [] a t k=0):=by show _=_;simp[Mk.z0t,ht,ha,hk]
     have ha2:¬ 0 < la:=by rw[← HLA.out,ha];simp
     have hk2:¬ 0 < lk:=by rw[← HLK.out,hk];simp[Mk.Fo.len]
     clear ha hk;go_enter Tryz.func194,Tryz.ntmps194;go_wp2_with fail;go_ret;exact⟨Y8 (by rw[HE.out]),AL.out⟩
    ·have HE:Hid (Mk.z0t names [] a t k=1):=by show _=_;simp[Mk.z0t,hk]
     have ha2:¬ 0 < la:=by rw[← HLA.out,ha];simp
     have hk2:0 < lk:=by rw[← HLK.out];exact z1o k hk
     clear ha hk;go_enter Tryz.func194,Tryz.ntmps194;go_wp2_with fail;go_ret;exact⟨Y8 (by rw[HE.out]),AL.out⟩
   ·have HE:Hid (Mk.z0t names [] a t k=1):=by show _=_;simp[Mk.z0t,ha]
    have ha2:0 < la:=by rw[← HLA.out];exact List.length_pos_iff.2 ha
    go_enter Tryz.func194,Tryz.ntmps194;go_wp2_with fail;go_ret;exact⟨Y8 (by rw[HE.out]),AL.out⟩
 ·have hn2:=TE.out n hn
  by_cases ht:t=[]
  ·subst ht
   have hst0:(st []).toList=[]:=Lib.toList_data _;have e0:([]:List UInt8).isEmpty=true:=rfl;have hnm1:=fun W=>z8n (st n) W (by rw[y9];exact hnl)
   rw[z0y] at hnm1;have hem:=fun W=>q6p n W
   obtain⟨bn,hbn⟩:∃ b,Mk.isName n=b:=⟨_,rfl⟩;obtain⟨be,hbe⟩:∃ b,Mk.z09 n=b:=⟨_,rfl⟩;rw[hbn] at hnm1;rw[hbe] at hem;have HN:=Lib.hid hnm1;have HM:=Lib.hid hem;clear hnm1 hem
   cases bn with
   | false =>
    have HE:Hid (Mk.z0t names n a [] k=1):=by show _=_;simp[Mk.z0t,hn,hbn]
    clear hbn hbe;go_enter Tryz.func194,Tryz.ntmps194;go_wp2_with fail;refine(HN.out _).mono ?_;rintro e w1 ⟨rfl,rfl⟩;go_wp2_with fail;go_ret;exact⟨Y8 (by rw[HE.out]),AL.out⟩
   | true =>
    have REST:(be=false∨k=.nil)→Mk.z0t names n a [] k=(if Mk.Q9 Mk.isName [] a ≠ 0 then Mk.Q9 Mk.isName [] a else if Mk.stays names n < names.length then 4 else 0):=by
     intro h;have:¬ (([]:List UInt8) ≠ []∨(!Mk.isName n)=true∨(Mk.z09 n=true∧k ≠ .nil)):=by
      rw[hbn,hbe];rintro (q | q | ⟨q,q2⟩)
      ·exact q rfl
      ·cases q
      ·rcases h with h | h
       ·rw[h] at q;cases q
       ·exact q2 h
     unfold Mk.z0t;rw[if_neg hn,if_neg this]
    have AA:=q65 a (.slice aoa la capa) K;have HAA:=Lib.hid AA;have HREST:=Lib.hid REST;clear AA REST;obtain⟨ce,hce⟩:∃ c,Mk.Q9 Mk.isName [] a=c:=⟨_,rfl⟩;obtain⟨sn,hsn⟩:∃ c,Mk.stays names n=c:=⟨_,rfl⟩;rw[hce,hsn] at HREST;rw[hce] at HAA;have HSN:=Lib.hid hsn;clear hce hsn
    cases be with
    | true =>
     by_cases hk:k=.nil
     ·have hk2:¬ 0 < lk:=by rw[← HLK.out,hk];simp[Mk.Fo.len]
      have HE:=Lib.hid (HREST.out (.inr hk));clear HREST hbn hbe hk;go_enter Tryz.func194,Tryz.ntmps194;go_wp2_with fail;refine(HN.out _).mono ?_;rintro e w1 ⟨rfl,hw1⟩;rw[hw1];clear hw1 w1;go_wp2_with fail;refine(HM.out _).mono ?_;rintro e w2 ⟨rfl,hw2⟩;rw[hw2];clear hw2 w2;have HA:=Lib.hid (HAA.out (w.alloc (.cells #[.string (st n),.slice aoa la capa,.string (st []),.slice aok lk capk] 53)) (hva.below hK AL.out) (fun b hb=>Nat.lt_of_lt_of_le (hK b hb) AL.out.size) hl);clear HAA;go_wp2_with fail;refine HA.out.mono ?_;rintro e w3 ⟨rfl,hb3⟩;have L3:=Lib.hid (AL.out.trans (hb3.mono AL.out.size));have PB:=Lib.hid (Blk.below (Blk.new w 53 #[.string (st n),.slice aoa la capa,.string (st []),.slice aok lk capk]) hb3 (Blk.lt (Blk.new w _ _)));have p0:w3.cell? ⟨w.heap.size,0,none⟩=some (.string (st n)):=Blk.cell PB.out 0;have HS:=Lib.hid (q6s names n vn K w3 (hvn.below hK L3.out) hnm);rw[HSN.out] at HS;clear hb3 HA
      by_cases hc0:ce=0
      ·subst hc0
       obtain⟨aon,capn,hvn1,_⟩:=hvn;subst hvn1;go_wp2_with fail;refine HS.out.mono ?_;rintro e w4 ⟨rfl,rfl⟩
       by_cases hlt:sn < names.length
       ·have hlt2:(sn:Int) < names.length:=by omega
        go_wp2_with fail;go_ret;exact⟨Y8 (by rw[HE.out,if_neg (by simp),if_pos hlt]),L3.out⟩
       ·have hlt2:¬ (sn:Int) < names.length:=by omega
        go_wp2_with fail;go_ret;exact⟨Y8 (by rw[HE.out,if_neg (by simp),if_neg hlt]),L3.out⟩
      ·have hc1:(ce == 0)=false:=beq_eq_false_iff_ne.2 hc0
       go_wp2_with fail;go_ret;exact⟨Y8 (by rw[HE.out,if_pos hc0]),L3.out⟩
     ·have HE:Hid (Mk.z0t names n a [] k=1):=by show _=_;simp[Mk.z0t,hn,hbn,hbe,hk]
      have hk2:0 < lk:=by rw[← HLK.out];exact z1o k hk
      clear hbn hbe HREST HAA;go_enter Tryz.func194,Tryz.ntmps194;go_wp2_with fail;refine(HN.out _).mono ?_;rintro e w1 ⟨rfl,rfl⟩;go_wp2_with fail;refine(HM.out _).mono ?_;rintro e w2 ⟨rfl,rfl⟩;go_wp2_with fail;go_ret;exact⟨Y8 (by rw[HE.out]),AL.out⟩
    | false =>
     have HE:=Lib.hid (HREST.out (.inl rfl));clear HREST hbn hbe;go_enter Tryz.func194,Tryz.ntmps194;go_wp2_with fail;refine(HN.out _).mono ?_;rintro e w1 ⟨rfl,hw1⟩;rw[hw1];clear hw1 w1;go_wp2_with fail;refine(HM.out _).mono ?_;rintro e w2 ⟨rfl,hw2⟩;rw[hw2];clear hw2 w2;have HA:=Lib.hid (HAA.out (w.alloc (.cells #[.string (st n),.slice aoa la capa,.string (st []),.slice aok lk capk] 53)) (hva.below hK AL.out) (fun b hb=>Nat.lt_of_lt_of_le (hK b hb) AL.out.size) hl);clear HAA;go_wp2_with fail;refine HA.out.mono ?_;rintro e w3 ⟨rfl,hb3⟩;have L3:=Lib.hid (AL.out.trans (hb3.mono AL.out.size));have PB:=Lib.hid (Blk.below (Blk.new w 53 #[.string (st n),.slice aoa la capa,.string (st []),.slice aok lk capk]) hb3 (Blk.lt (Blk.new w _ _)));have p0:w3.cell? ⟨w.heap.size,0,none⟩=some (.string (st n)):=Blk.cell PB.out 0;have HS:=Lib.hid (q6s names n vn K w3 (hvn.below hK L3.out) hnm);rw[HSN.out] at HS;clear hb3 HA
     by_cases hc0:ce=0
     ·subst hc0
      obtain⟨aon,capn,hvn1,_⟩:=hvn;subst hvn1;go_wp2_with fail;refine HS.out.mono ?_;rintro e w4 ⟨rfl,rfl⟩
      by_cases hlt:sn < names.length
      ·have hlt2:(sn:Int) < names.length:=by omega
       go_wp2_with fail;go_ret;exact⟨Y8 (by rw[HE.out,if_neg (by simp),if_pos hlt]),L3.out⟩
      ·have hlt2:¬ (sn:Int) < names.length:=by omega
       go_wp2_with fail;go_ret;exact⟨Y8 (by rw[HE.out,if_neg (by simp),if_neg hlt]),L3.out⟩
     ·have hc1:(ce == 0)=false:=beq_eq_false_iff_ne.2 hc0
      go_wp2_with fail;go_ret;exact⟨Y8 (by rw[HE.out,if_pos hc0]),L3.out⟩
  ·have HE:Hid (Mk.z0t names n a t k=1):=by show _=_;simp[Mk.z0t,hn,ht]
   have ht2:=TE.out t ht;go_enter Tryz.func194,Tryz.ntmps194;go_wp2_with fail;go_ret;exact⟨Y8 (by rw[HE.out]),AL.out⟩
end Go.Proofs.YtjonkbdldebkiaaGreatDoor
namespace Mk
namespace Fo
def right:Fo→Prop
 | nil=>True
 | node n _ t k r=>(n=[]→k=nil)∧(n ≠ []→t=[])∧(z09 n=true→k=nil)∧right k∧right r
end Fo
open Fo

theorem z2f:∀ f names prev,Q8 f names prev=0→right f:=by
 intro f
 induction f with
 | nil=>intro _ _ _;trivial
 | node n a t k r ihk ihr =>
  intro names prev h;unfold Q8 at h
  by_cases h1:z0t names n a t k ≠ 0
  ·rw[if_pos h1] at h;exact absurd h h1
  rw[if_neg h1] at h
  by_cases h2:n=[]∧prev
  ·rw[if_pos h2] at h;cases h
  rw[if_neg h2] at h
  by_cases h3:Q8 k (names++[n]) false ≠ 0
  ·rw[if_pos h3] at h;exact absurd h h3
  rw[if_neg h3] at h;have hk:=ihk _ _ (by simpa using h3);have hr:=ihr _ _ h;have h1':z0t names n a t k=0:=by simpa using h1
  unfold z0t at h1'
  by_cases hn:n=[]
  ·rw[if_pos hn] at h1'
   by_cases hq:t=[]∨a ≠ []∨k ≠ nil
   ·rw[if_pos hq] at h1';cases h1'
   ·refine⟨fun _=>?_,fun h=>absurd hn h,fun he=>?_,hk,hr⟩
    ·exact Classical.byContradiction fun hc=>hq (.inr (.inr hc))
    ·rw[hn] at he;exact absurd he (by decide)
  ·rw[if_neg hn] at h1'
   by_cases hq:t ≠ []∨!isName n∨(z09 n∧k ≠ nil)
   ·rw[if_pos hq] at h1';cases h1'
   ·refine⟨fun h=>absurd h hn,fun _=>?_,fun he=>?_,hk,hr⟩
    ·exact Classical.byContradiction fun hc=>hq (.inl hc)
    ·exact Classical.byContradiction fun hc=>hq (.inr (.inr ⟨he,hc⟩))
end Mk
