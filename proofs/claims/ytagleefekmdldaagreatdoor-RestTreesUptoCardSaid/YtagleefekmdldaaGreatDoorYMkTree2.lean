/- Contracts of the program's above and stays: elements that stand in one another. Condition: at most 33554432 of them. -/
import Derived.Test.YtagleefekmdldaaGreatDoorYUrlD
import Derived.Test.YtagleefekmdldaaGreatDoorYMkTok2
set_option linter.unusedVariables false
set_option linter.unusedSimpArgs false
set_option maxHeartbeats 4000000
set_option maxRecDepth 100000
namespace Mk
theorem q5c (x:Bs) (q:Bs→Bool) (l:List Bs):above x q (l.take 0)=none:=by simp[above,z96]
theorem q2i (x:Bs) (q:Bs→Bool) (l:List Bs) (k:Nat) (h:k < l.length):above x q (l.take (k + 1))=if l[k]=x then some k else if q l[k] then none else above x q (l.take k):=by
 unfold above;rw[List.take_succ_eq_append_getElem h,List.reverse_append];show z96 x q (l[k] :: (l.take k).reverse)=_;rw[z96,List.length_reverse,List.length_take,Nat.min_eq_left (by omega)]
theorem q3t (x:Bs) (q:Bs→Bool) (l:List Bs) (i:Nat) (h:above x q l=some i):i < l.length:=by
 have key:∀ k,k≤l.length→above x q (l.take k)=some i→i < k:=by
  intro k
  induction k with
  | zero=>intro _ h;rw[q5c] at h;cases h
  | succ k ih =>
   intro hk h;rw[q2i x q l k (by omega)] at h
   split at h
   ·injection h with h;omega
   split at h
   ·cases h
   ·have:=ih (by omega) h;omega
 exact key l.length (Lr) (by rw[List.take_length];exact h)
end Mk
namespace Go.Proofs.YtagleefekmdldaaGreatDoor
open Go.Proofs.Tryz Go.RowKit
def z09 (l:List (List UInt8)):List Value:=l.map fun x=>.string (st x)
def z18 (w:World) (K:Nat→Prop) (v:Value) (l:List (List UInt8)):Prop:=∃ ao cap,v=.slice ao l.length cap∧l.length≤cap∧z1v w K ao (z09 l)∧cap≤maxLen
theorem z18.frame {w w':World} {K K':Nat→Prop} {v:Value} {l:List (List UInt8)} (h:z18 w K v l) (hk:∀ b,K b→K' b∧w'.heap[b]? = w.heap[b]?):z18 w' K' v l:=by
 obtain⟨ao,cap,h1,h2,h3,h4⟩:=h;exact⟨ao,cap,h1,h2,h3.frame hk,h4⟩
theorem z18.nil (w:World) (K:Nat→Prop):z18 w K (.slice none 0 0) []:=⟨none,0,rfl,Lr,.inl rfl,Nat.zero_le _⟩
theorem z18.at_ {w:World} {K:Nat→Prop} {v:Value} {l:List (List UInt8)} (h:z18 w K v l):∃ ao cap,v=.slice ao l.length cap∧l.length≤cap∧cap≤maxLen∧(l=[]∨∃ g o,ao=some ⟨g,o,none⟩∧K g∧∀ k (hk:k < l.length),w.cell? ⟨g,o + k,none⟩=some (.string (st l[k]))):=by
 obtain⟨ao,cap,h1,h2,h3,h4⟩:=h;refine⟨ao,cap,h1,h2,h4,?_⟩
 rcases h3 with h3 | ⟨g,o,e1,e2,e3,e9⟩
 ·left;simpa [z09] using h3
 ·right
  exact⟨g,o,e1,e2,fun k hk=>e3 k _ (by simp[z09,List.getElem?_eq_getElem hk])⟩
theorem z18.take {w:World} {K:Nat→Prop} {ao:Option Addr} {cap:Nat} {l:List (List UInt8)} (h:z18 w K (.slice ao l.length cap) l) (i:Nat) (hi:i≤l.length):z18 w K (.slice ao i cap) (l.take i):=by
 obtain⟨ao',cap',h1,h2,h3,h4⟩:=h;injection h1 with e1 e2 e3;subst e1;subst e3;refine⟨ao,cap,by rw[List.length_take,Nat.min_eq_left hi],by rw[List.length_take];omega,?_,h4⟩
 rcases h3 with h3 | ⟨g,o,e1,e2,e3,e9⟩
 ·left
  have:l=[]:=by simpa [z09] using h3
  subst this;simp[z09]
 ·refine .inr ⟨g,o,e1,e2,fun k v hk=>e3 k v ?_,fun k hk=>e9 k (Nat.lt_of_lt_of_le hk (by simp[z09];omega))⟩
  unfold z09 at hk ⊢;rw[List.map_take] at hk;rw[List.getElem?_take] at hk
  split at hk
  ·exact hk
  ·cases hk
def optV:Option Nat→Value | none=>.int .i64 (-1) | some i=>.int .i64 i
def AsksS (g:FuncId) (q:List UInt8→Bool):Prop:=∀ (s:List UInt8) (w:World),Calls prog g #[.string (st s)] w fun e w'=>e=.returned (.bool (q s))∧w'=w
theorem q53 (g:FuncId) (q:List UInt8→Bool) (eg:∀ args w,(callFunc g args).run prog w=.ok (.enter g args) w) (hq:AsksS g q) (l:List (List UInt8)) (x:List UInt8) (v:Value) (K:Nat→Prop) (w:World) (hv:z18 w K v l) (hl:l.length≤33554432) :
  Calls prog 92 #[v,.string (st x),.func (.func g) #[] #[]] w fun e w'=>e=.returned (optV (Mk.above x q l))∧w'=w:=by
 obtain⟨ao,cap,rfl,hcap,hcm,hat⟩:=hv.at_
 have HQ:=Ld hq;have HA:=Ld hat
 clear hq hat hv;go_enter func92,ntmps92;go_wp2_with fail
 go_loopw [7] (fun i wr=>∃ k:Nat,k≤l.length∧i=.int .i64 ((k:Int) - 1)∧wr=w∧Hid (Mk.above x q l=Mk.above x q (l.take k))) (fun i _=>(intOf i + 1).toNat)
 case atStart=>exact⟨l.length,Lr,by go_num,rfl,by show _=_;rw[List.take_length]⟩
 case round =>
  obtain⟨k,hk,rfl,rfl,HK⟩:=hrel
  cases k with
  | zero =>
   have HE:Hid (Mk.above x q l=none):=by show _=_;rw[HK.out,Mk.q5c]
   clear HK;go_wp2_with fail;go_ret;exact⟨by rw[HE.out];rfl,rfl⟩
  | succ k =>
   have hlt:k < l.length:=by omega
   rcases HA.out with h0 | ⟨b,o,hao,_,hcl⟩
   ·rw[h0] at hlt;simp at hlt
   subst hao;have c0:=hcl k hlt;have HX:Hid (Mk.above x q l=if l[k]=x then some k else if q l[k] then none else Mk.above x q (l.take k)):=by show _=_;rw[HK.out,Mk.q2i x q l k hlt]
   have hst:∀ l:List UInt8,(st l).toList=l:=fun l=>Lib.toList_data _
   have hki:(((k + 1:Nat):Int) - 1)=(k:Int):=by omega
   rw[hki];have hk0:(0:Int)≤k:=by omega
   have hkl:(k:Int) < l.length:=by omega
   generalize l[k]=n at c0 HX;clear HK HA hcl hki
   by_cases hnx:n=x
   ·subst hnx
    have hb:(n == n)=true:=beq_self_eq_true n;rw[if_pos rfl] at HX;go_wp2_with fail;go_ret;exact⟨by rw[HX.out];rfl,rfl⟩
   ·rw[if_neg hnx] at HX
    have hb:(n == x)=false:=beq_eq_false_iff_ne.2 hnx;have hcall:=HQ.out n wr;generalize q n=bq at hcall HX;have HC:=Ld hcall;clear hcall
    cases bq with
    | true =>
     go_wp2_with fail;refine HC.out.mono ?_;rintro e w1 ⟨rfl,rfl⟩;go_wp2_with fail;go_ret;exact⟨by rw[HX.out];rfl,rfl⟩
    | false =>
     go_wp2_with fail;refine HC.out.mono ?_;rintro e w1 ⟨rfl,rfl⟩;go_wp2_with fail;go_roundw
     case rel=>exact⟨k,by omega,by go_num,by trivial,by show _=_;rw[HX.out];rfl⟩
     case measure=>simp[intOf]

theorem eg_wall (args:Array Value) (w:World):(callFunc 122 args).run prog w=.ok (.enter 122 args) w:=Z7 func122 (by kernel_rfl) rfl _ _
theorem eg_list (args:Array Value) (w:World):(callFunc 123 args).run prog w=.ok (.enter 123 args) w:=Z7 func123 (by kernel_rfl) rfl _ _
def stays1 (l:List (List UInt8)) (n:List UInt8):List (List UInt8):=if Mk.z5o n then Mk.z8l l (Mk.above [112] Mk.z7i l) else l
def q3j (l:List (List UInt8)) (n:List UInt8):List (List UInt8):=if n == [108,105] then Mk.z8l l (Mk.above [108,105] Mk.z8o l) else l
theorem stays_is (l:List (List UInt8)) (n:List UInt8):Mk.stays l n=(q3j (stays1 l n) n).length:=rfl
theorem j4b (l:List (List UInt8)) (o:Option Nat):(Mk.z8l l o).length≤l.length:=by
 cases o with
 | none=>exact Lr
 | some k=>show (l.take k).length≤l.length;rw[List.length_take];exact Nat.min_le_right _ _
theorem q55 (l:List (List UInt8)) (n:List UInt8) (v:Value) (K:Nat→Prop) (w:World) (hv:z18 w K v l) (hl:l.length≤33554432) :
  Calls prog 90 #[v,.string (st n)] w fun e w'=>e=.returned (.int .i64 (Mk.stays l n))∧w'=w:=by
 have hst:(st n).toList=n:=Lib.toList_data _;have HV:=Ld hv;have hll:(stays1 l n).length≤33554432:=by unfold stays1;split;exact Nat.le_trans (j4b _ _) hl;exact hl
 clear hv;go_enter func90,ntmps90;go_wp2_with fail;refine(tr_block n w).mono ?_;rintro e w1 ⟨rfl,hw⟩;subst hw;go_upto_if 8 with fail
 go_cut [0] (fun v wx=>wx=w1∧Hid (z18 w1 K v (stays1 l n)))
 case first =>
  cases hbl:Mk.z5o n with
  | false =>
   have HV1:Hid (z18 w1 K v (stays1 l n)):=by show z18 _ _ _ _;rw[stays1,hbl];exact HV.out
   clear hbl;go_wp2_with fail;go_meet
   case rel=>exact⟨rfl,HV1⟩
  | true =>
   have ha:=q53 122 Mk.z7i eg_wall j6w l [112] v K w1 HV.out hl;obtain⟨o,ho⟩:∃ o,Mk.above [112] Mk.z7i l=o:=⟨_,rfl⟩;have h1:stays1 l n=Mk.z8l l o:=by rw[stays1,hbl,if_pos rfl,ho]
   have hlt:=Mk.q3t [112] Mk.z7i l;rw[ho] at ha hlt;have HA:=Ld ha;have H1:=Ld h1;clear ha h1 hbl ho
   cases o with
   | none =>
    clear hlt;go_wp2_with fail;refine HA.out.mono ?_;rintro e w2 ⟨rfl,hw⟩;subst hw;unfold optV;go_wp2_with fail;go_meet
    case rel=>exact⟨rfl,by rw[H1.out];exact HV⟩
   | some i =>
    have hi:=hlt i rfl;obtain⟨ao,cap,rfl,hcap,hcm,_⟩:=HV.out.at_
    have HT:=Ld (HV.out.take i (by omega));clear hlt;go_wp2_with fail;refine HA.out.mono ?_;rintro e w2 ⟨rfl,hw⟩;subst hw;unfold optV;have hi0:(0:Int)≤i:=by omega
    have hic:(i:Int)≤cap:=by omega
    go_wp2_with fail;go_meet
    case rel=>exact⟨rfl,by rw[H1.out];exact HT⟩
 case rest =>
  obtain⟨hw,HV1⟩:=hcut;subst hw;have hs2:=stays_is l n;generalize stays1 l n=l1 at HV1 hll hs2;have HS2:=Ld hs2;clear hs2;go_upto_if 17 with fail
  go_cut [0] (fun v wx=>wx=wc∧Hid (z18 wc K v (q3j l1 n)))
  case first =>
   cases hbl:(n == [108,105]) with
   | false =>
    have HV2:Hid (z18 wc K u0 (q3j l1 n)):=by show z18 _ _ _ _;rw[q3j,hbl];exact HV1.out
    clear HV;go_wp2_with fail;go_meet
    case rel=>exact⟨rfl,HV2⟩
   | true =>
    have ha:=q53 123 Mk.z8o eg_list tr_list l1 [108,105] u0 K wc HV1.out hll;obtain⟨o,ho⟩:∃ o,Mk.above [108,105] Mk.z8o l1=o:=⟨_,rfl⟩;have h1:q3j l1 n=Mk.z8l l1 o:=by rw[q3j,hbl,if_pos rfl,ho]
    have hlt:=Mk.q3t [108,105] Mk.z8o l1;rw[ho] at ha hlt;have HA:=Ld ha;have H1:=Ld h1;clear ha h1 ho HV
    cases o with
    | none =>
     clear hlt;go_wp2_with fail;refine HA.out.mono ?_;rintro e w2 ⟨rfl,hw⟩;subst hw;unfold optV;go_wp2_with fail;go_meet
     case rel=>exact⟨rfl,by rw[H1.out];exact HV1⟩
    | some i =>
     have hi:=hlt i rfl;obtain⟨ao,cap,rfl,hcap,hcm,_⟩:=HV1.out.at_
     have HT:=Ld (HV1.out.take i (by omega));clear hlt;go_wp2_with fail;refine HA.out.mono ?_;rintro e w2 ⟨rfl,hw⟩;subst hw;unfold optV;have hi0:(0:Int)≤i:=by omega
     have hic:(i:Int)≤cap:=by omega
     go_wp2_with fail;go_meet
     case rel=>exact⟨rfl,by rw[H1.out];exact HT⟩
  case rest =>
   obtain⟨hw,HV2⟩:=hcut;subst hw;obtain⟨ao,cap,rfl,hcap,hcm,_⟩:=HV2.out.at_
   go_wp2_with fail;go_ret;exact⟨by rw[HS2.out];rfl,rfl⟩
end Go.Proofs.YtagleefekmdldaaGreatDoor
namespace Mk
namespace Fo
def drop:Fo→Nat→Fo
 | f,0=>f
 | nil,_ + 1=>nil
 | node _ _ _ _ r,k + 1=>drop r k
def atB (l:List At):Nat:=(l.map fun a=>1 + a.n.length + a.v.length).sum
def bulk:Fo→Nat
 | nil=>0
 | node n a t k r=>1 + n.length + t.length + atB a + bulk k + bulk r
theorem drop_zero (f:Fo):drop f 0=f:=by cases f <;> rfl
theorem z2v:∀ (f:Fo),drop f f.len=nil
 | nil=>rfl
 | node _ _ _ _ r=>by show drop r r.len=nil;exact z2v r
theorem z1x:∀ (f:Fo) (k:Nat),k < f.len→∃ n a t kk r,drop f k=node n a t kk r∧drop f (k + 1)=r
 | nil,k,h=>absurd h (Nat.not_lt_zero _)
 | node n a t kk r,0,_=>⟨n,a,t,kk,r,rfl,by show drop r 0=r;exact drop_zero r⟩
 | node n a t kk r,k + 1,h=>by
  obtain⟨n',a',t',k',r',h1,h2⟩:=z1x r k (by simp[len] at h;omega);exact⟨n',a',t',k',r',h1,h2⟩
theorem z0s:∀ (f:Fo) (k:Nat),bulk (drop f k)≤bulk f
 | f,0=>by rw[drop_zero];exact Lr
 | nil,_ + 1=>Lr
 | node n a t kk r,k + 1=>by
  have:=z0s r k;show bulk (drop r k)≤1 + n.length + t.length + atB a + bulk kk + bulk r;omega
theorem z0m:∀ f:Fo,f.len≤bulk f
 | nil=>Lr
 | node n a t kk r=>by have:=z0m r;show r.len + 1≤1 + n.length + t.length + atB a + bulk kk + bulk r;omega
end Fo
theorem z1l (l:List At):l.length≤Fo.atB l:=by
 induction l with
 | nil=>exact Lr
 | cons a t ih=>simp[Fo.atB] at ih ⊢;omega
theorem q0k {l:List At} {a:At} (h:a ∈ l):1 + a.n.length + a.v.length≤Fo.atB l:=by
 induction l with
 | nil=>cases h
 | cons b t ih =>
  rcases List.mem_cons.1 h with e | e
  ·subst e;simp[Fo.atB]
  ·have:=ih e;simp[Fo.atB] at this ⊢;omega
theorem j2o (m:Nat) (a:List At) (t:Bs) (k r:Fo):z0i m (.node [] a t k r)=((z0i m r).1 + 1,(z0i m r).2):=by cases m <;> rfl
theorem j2p {n:Bs} (hn:n ≠ []) (a:List At) (t:Bs) (k r:Fo):z0i 0 (.node n a t k r)=((z0i 0 r).1 + 1,max 1 (z0i 0 r).2):=by
 rw[z0i];simp[hn]
theorem j2n {n:Bs} (hn:n ≠ []) (m:Nat) (a:List At) (t:Bs) (k r:Fo):z0i (m + 1) (.node n a t k r)=((z0i (m + 1) r).1 + 1 + (z0i m k).1,max (max 1 ((z0i m k).2 + 1)) (z0i (m + 1) r).2):=by
 rw[z0i];simp[hn]
theorem z8w:∀ (m:Nat) (f:Fo),(z0i m f).1≤Fo.bulk f∧(z0i m f).2≤m + 1:=by
 intro m
 induction m with
 | zero =>
  intro f
  induction f with
  | nil=>exact⟨Lr,by simp[z0i]⟩
  | node n a t k r _ ihr =>
   unfold z0i Fo.bulk;simp only
   split
   ·exact⟨by simp only;omega,ihr.2⟩
   ·exact⟨by simp only;omega,by simp only;omega⟩
 | succ m ihm =>
  intro f
  induction f with
  | nil=>exact⟨Lr,by simp[z0i]⟩
  | node n a t k r _ ihr =>
   have hk:=ihm k;unfold z0i Fo.bulk;simp only
   split
   ·exact⟨by simp only;omega,ihr.2⟩
   ·exact⟨by simp only;omega,by simp only;omega⟩
end Mk
namespace Go.Proofs.YtagleefekmdldaaGreatDoor
open Go.Proofs.Tryz Go.RowKit
theorem Y0.at_ {w:World} {K:Nat→Prop}:∀ {f:Mk.Fo} {xs:List Value},Y0 w K f xs→∀ {k:Nat} {n:List UInt8} {a:List Mk.At} {t:List UInt8} {kk r:Mk.Fo},f.drop k=.node n a t kk r →
  ∃ va ao cap zs,xs[4 * k]? = some (.string (st n))∧xs[4 * k + 1]? = some va∧xs[4 * k + 2]? = some (.string (st t))∧xs[4 * k + 3]? = some (.slice ao kk.len cap)∧AtsV w K va a∧z1v w K ao zs∧kk.len≤maxLen∧Y0 w K kk zs
 | .nil,_,_,k,_,_,_,_,_,hd=>by cases k <;> cases hd
 | .node n' a' t' k' r',xs,h,0,n,a,t,kk,r,hd=>by
  obtain⟨va,ao,cap,zs,ys,h1,h2,h3,h4,h5,h6⟩:=h;rw[Mk.Fo.drop_zero] at hd;injection hd with e1 e2 e3 e4 e5;subst e1;subst e2;subst e3;subst e4;subst e5;exact⟨va,ao,cap,zs,by rw[h1];rfl,by rw[h1];rfl,by rw[h1];rfl,by rw[h1];rfl,h2,h3,h4,h5⟩
 | .node n' a' t' k' r',xs,h,k + 1,n,a,t,kk,r,hd=>by
  obtain⟨va',ao',cap',zs',ys,h1,_,_,_,_,h6⟩:=h;have hd':r'.drop k=.node n a t kk r:=hd;obtain⟨va,ao,cap,zs,g1,g2,g3,g4,g5⟩:=Y0.at_ h6 hd'
  have sh:∀ i v,ys[i]? = some v→xs[i + 4]? = some v:=by
   intro i v hi;rw[h1,List.getElem?_append_right (by simp)]
   simpa using hi
  exact⟨va,ao,cap,zs,by rw[show 4 * (k + 1)=4 * k + 4 by omega];exact sh _ _ g1,by rw[show 4 * (k + 1) + 1=4 * k + 1 + 4 by omega];exact sh _ _ g2,by rw[show 4 * (k + 1) + 2=4 * k + 2 + 4 by omega];exact sh _ _ g3,by rw[show 4 * (k + 1) + 3=4 * k + 3 + 4 by omega];exact sh _ _ g4,g5⟩
theorem FoV.at_ {w:World} {K:Nat→Prop} {v:Value} {f:Mk.Fo} (h:FoV w K v f):∃ g o cap,((v=.slice (some ⟨g,o,none⟩) f.len cap∧K g)∨∃ ao,v=.slice ao 0 cap∧f=.nil)∧f.len≤maxLen ∧
  ∀ k n a t kk r,f.drop k=.node n a t kk r→∃ va vk,w.cell? ⟨g,o + k * 4,none⟩=some (.string (st n))∧w.cell? ⟨g,o + k * 4 + 1,none⟩=some va∧w.cell? ⟨g,o + k * 4 + 2,none⟩=some (.string (st t))∧w.cell? ⟨g,o + k * 4 + 3,none⟩=some vk∧AtsV w K va a∧FoV w K vk kk:=by
 obtain⟨ao,cap,xs,h1,h2,h3,h4⟩:=h
 rcases h2 with h2 | ⟨g,o,e1,e2,e3,_⟩
 ·have hl:=h3.length
  rw[h2] at hl;have:f=.nil:=by
   cases f with
   | nil=>rfl
   | node _ _ _ _ _=>simp[Mk.Fo.len] at hl
  subst this;exact⟨0,0,cap,.inr ⟨ao,h1,rfl⟩,h4,fun k n a t kk r hd=>by cases k <;> cases hd⟩
 ·refine⟨g,o,cap,.inl ⟨by rw[h1,e1],e2⟩,h4,fun k n a t kk r hd=>?_⟩
  obtain⟨va,ao',cap',zs,g1,g2,g3,g4,g5,g6,g7,g8⟩:=h3.at_ hd
  rw[Nat.mul_comm k 4];exact⟨va,_,e3 _ _ g1,by rw[Nat.add_assoc];exact e3 _ _ g2,by rw[Nat.add_assoc];exact e3 _ _ g3,by rw[Nat.add_assoc];exact e3 _ _ g4,g5,ao',cap',zs,rfl,g6,g8,g7⟩
theorem FoV.below {w w':World} {K:Nat→Prop} {v:Value} {f:Mk.Fo} {B:Nat} (h:FoV w K v f) (hK:∀ b,K b→b < B) (hb:Below B w w'):FoV w' K v f:=h.frame fun b hk=>⟨hk,hb.block b (hK b hk)⟩
theorem AtsV.below {w w':World} {K:Nat→Prop} {v:Value} {f:List Mk.At} {B:Nat} (h:AtsV w K v f) (hK:∀ b,K b→b < B) (hb:Below B w w'):AtsV w' K v f:=h.frame fun b hk=>⟨hk,hb.block b (hK b hk)⟩
theorem z18.below {w w':World} {K:Nat→Prop} {v:Value} {f:List (List UInt8)} {B:Nat} (h:z18 w K v f) (hK:∀ b,K b→b < B) (hb:Below B w w'):z18 w' K v f:=h.frame fun b hk=>⟨hk,hb.block b (hK b hk)⟩

theorem j6u (N:Nat):∀ (f:Mk.Fo) (m:Nat) (v:Value) (K:Nat→Prop) (w:World),f.bulk < N→f.bulk≤33554432→m≤8→FoV w K v f→(∀ b,K b→b < w.heap.size) →
  Calls prog 45 #[v,.int .i64 m] w fun e w'=>e=.returned (.tuple #[.int .i64 (Mk.z0i m f).1,.int .i64 (Mk.z0i m f).2])∧Below w.heap.size w w':=by
 induction N with
 | zero =>
  intro f m v K w hN;omega
 | succ N ih =>
  intro f m v K w hN hf hm hv hK;obtain⟨g,o,cap,hv1,hlen,hat⟩:=hv.at_
  have HAT:=Ld hat
  clear hat
  have hfl:=Mk.Fo.z0m f
  rcases hv1 with ⟨hv1,hKg⟩ | ⟨ao,hv1,hnil⟩
  ·have hgl:=hK g hKg
   subst hv1;go_enter func45,ntmps45;go_wp2_with fail
   go_loopw [6,7,16] (fun a b i wr=>∃ k many deep:Nat,k≤f.len∧i=.int .i64 k∧a=.int .i64 many∧b=.int .i64 deep∧many + (Mk.z0i m (f.drop k)).1=(Mk.z0i m f).1 + (f.drop k).len∧max deep (Mk.z0i m (f.drop k)).2=(Mk.z0i m f).2∧Hid (Below w.heap.size w wr)) (fun _ _ i _=>f.len - (intOf i).toNat)
   case atStart=>exact⟨0,f.len,0,Nat.zero_le _,rfl,rfl,rfl,by rw[Mk.Fo.drop_zero,Nat.add_comm],by rw[Mk.Fo.drop_zero,Nat.zero_max],Below.refl _ _⟩
   case round =>
    obtain⟨k,many,deep,hk,rfl,rfl,rfl,h1,h2,BL⟩:=hrel;have hsz:=BL.out.size
    by_cases hlt:k < f.len
    ·obtain⟨n,a,t,kk,r,hd,hd1⟩:=Mk.Fo.z1x f k hlt
     obtain⟨va,vk,c0,c1,c2,c3,hva,hvk⟩:=HAT.out k n a t kk r hd;rw[← BL.out.cell (p:=⟨g,_,none⟩) hgl] at c0 c1 c2 c3;have hdb:=Mk.Fo.z0s f k;rw[hd] at hdb h1 h2;have hkb:kk.bulk + r.bulk + 1≤f.bulk:=by
      have e:(Mk.Fo.node n a t kk r).bulk=1 + n.length + t.length + Mk.Fo.atB a + kk.bulk + r.bulk:=rfl;omega
     have hrl:=Mk.Fo.z0m r;have hlr:(Mk.Fo.node n a t kk r).len=r.len + 1:=rfl;obtain⟨aoa,capa,hva1,_⟩:=hva;obtain⟨aok,capk,xsk,hvk1,hvk2⟩:=hvk;subst hva1;subst hvk1;have hst:∀ l:List UInt8,(st l).toList=l:=fun l=>Lib.toList_data _
     have hsb:=Mk.z8w m f;have hal:=(Below.refl wr.heap.size wr).alloc (Lr) (.cells #[.string (st n),.slice aoa a.length capa,.string (st t),.slice aok kk.len capk] 38);have BL1:=Ld (BL.out.trans (hal.mono hsz))
     by_cases hn:n=[]
     ·subst hn
      have hst0:(st []).toList=[]:=Lib.toList_data _;rw[Mk.j2o] at h1 h2;simp only at h1 h2;clear HAT hal hd;go_wp2_with fail;go_roundw
      case rel=>exact⟨k + 1,many,deep,by omega,by go_num,rfl,rfl,by rw[hd1];omega,by rw[hd1];exact h2,BL1⟩
      case measure=>simp[intOf];omega
     ·have he:n.isEmpty=false:=by
       cases n with
       | nil=>exact absurd rfl hn
       | cons _ _=>rfl
      have hmx:max (deep:Int) 1=((max deep 1:Nat):Int):=by omega
      by_cases hm0:m=0
      ·subst hm0
       rw[Mk.j2p hn] at h1 h2;simp only at h1 h2;clear HAT hal hd;go_wp2_with fail;go_roundw
       case rel=>exact⟨k + 1,many,max deep 1,by omega,by go_num,rfl,by rw[← hmx],by rw[hd1];omega,by rw[hd1];omega,BL1⟩
       case measure=>simp[intOf];omega
      ·obtain⟨m',hm1⟩:∃ m',m=m' + 1:=⟨m - 1,by omega⟩
       have hss:=Mk.j2n hn m' a t kk r;rw[← hm1] at hss;rw[hss] at h1 h2;have hmm:(m:Int) - 1=m':=by omega
       have hmi:((m:Int) == 0)=false:=by rw[beq_eq_false_iff_ne];omega
       have HM1:=Ld hm1;have hfk:FoV w K (.slice aok kk.len capk) kk:=⟨aok,capk,xsk,rfl,hvk2⟩;have hrec:=ih kk m' (.slice aok kk.len capk) K (wr.alloc (.cells #[.string (st n),.slice aoa a.length capa,.string (st t),.slice aok kk.len capk] 38)) (by omega) (by omega) (by have:=HM1.out;omega) (hfk.below hK BL1.out) (fun b hb=>Nat.lt_of_lt_of_le (hK b hb) BL1.out.size);have hsk:=Mk.z8w m' kk;generalize Mk.z0i m' kk=y at hrec h1 h2 hsk;obtain⟨y1,y2⟩:=y;simp only at h1 h2 hrec hsk;have HREC:=Ld hrec;have hmx2:max (((max deep 1:Nat):Int)) ((y2:Int) + 1)=((max (max deep 1) (y2 + 1):Nat):Int):=by omega
       clear HAT hal hd hrec hfk hvk2 hm1 hss;go_wp2_with fail;refine HREC.out.mono ?_;rintro e w2 ⟨rfl,hb2⟩;have BL2:=Ld (BL1.out.trans (hb2.mono BL1.out.size));have hdp:deep≤9:=by have:=HM1.out;omega
       clear hb2 HREC BL1;go_wp2_with fail;go_roundw
       case rel=>exact⟨k + 1,many + y1,max (max deep 1) (y2 + 1),by omega,by go_num,by go_num,by congr 1;omega,by rw[hd1];omega,by rw[hd1];omega,BL2⟩
       case measure=>simp[intOf];omega
    ·have hke:k=f.len:=by omega
     rw[hke,Mk.Fo.z2v] at h1 h2;have h1':many=(Mk.z0i m f).1:=by simpa [Mk.z0i,Mk.Fo.len] using h1
     have h2':deep=(Mk.z0i m f).2:=by simpa [Mk.z0i] using h2
     have H1:=Ld h1';have H2:=Ld h2';clear h1 h2 h1' h2' HAT;go_wp2_with fail;go_ret2;exact⟨by rw[H1.out,H2.out];rfl,BL.out⟩
  ·subst hnil
   subst hv1;clear HAT;go_enter func45,ntmps45;go_wp2_with fail
   go_loopw [6,7,16] (fun a b i wr=>a=.int .i64 0∧b=.int .i64 0∧i=.int .i64 0∧wr=w) (fun _ _ _ _=>0)
   case atStart=>exact⟨rfl,rfl,rfl,rfl⟩
   case round =>
    obtain⟨rfl,rfl,rfl,rfl⟩:=hrel;go_wp2_with fail;go_ret2;exact⟨by cases m <;> rfl,Below.refl _ _⟩
end Go.Proofs.YtagleefekmdldaaGreatDoor
namespace Mk
theorem z7m (q:Bs→Bool) (l:List At) (k:Nat) (h:k < l.length):J3 q (l.take k) (l.drop k)=if !q l[k].n then 1 else if z1d (l.take k) l[k].n then 6 else J3 q (l.take (k + 1)) (l.drop (k + 1)):=by
 rw[List.drop_eq_getElem_cons h,List.take_succ_eq_append_getElem h];rfl
end Mk
namespace Go.Proofs.YtagleefekmdldaaGreatDoor
open Go.Proofs.Tryz Go.RowKit
theorem AtsV.take {w:World} {K:Nat→Prop} {ao:Option Addr} {cap:Nat} {l:List Mk.At} (h:AtsV w K (.slice ao l.length cap) l) (i:Nat) (hi:i≤l.length):AtsV w K (.slice ao i cap) (l.take i):=by
 obtain⟨ao',cap',h1,h2,h3,h4⟩:=h;injection h1 with e1 e2 e3;subst e1;subst e3;refine⟨ao,cap,by rw[List.length_take,Nat.min_eq_left hi],?_,by rw[List.length_take];omega,by rw[List.length_take];omega⟩
 rcases h2 with h2 | ⟨g,o,e1,e2,e3,e9⟩
 ·left
  have:l=[]:=List.eq_nil_of_length_eq_zero (by have:=z04 l;rw[h2] at this;simp at this;omega);subst this;simp[Z5]
 ·refine .inr ⟨g,o,e1,e2,fun k v hk=>e3 k v ?_,fun k hk=>e9 k (Nat.lt_of_lt_of_le hk (by rw[z04,z04,List.length_take];omega))⟩
  have hsplit:Z5 l=Z5 (l.take i)++Z5 (l.drop i):=by
   rw[Z5,Z5,Z5,← List.flatMap_append,List.take_append_drop]
  rw[hsplit,List.getElem?_append_left]
  ·exact hk
  ·rcases Nat.lt_or_ge k (Z5 (l.take i)).length with q | q
   ·exact q
   ·rw[List.getElem?_eq_none q] at hk;cases hk
theorem q0i (P:Nat) (nm:List UInt8) (l:List Mk.At) (w:World) (hP:P < w.heap.size) (hc:w.cell? ⟨P,0,none⟩=some (.string (st nm))):j0b 105 #[.pointer (some ⟨P,0,none⟩)] (fun a=>a.n == nm) l w:=by
 intro w1 hb a _;have c0:w1.cell? ⟨P,0,none⟩=some (.string (st nm)):=(hb.cell (p:=⟨P,0,none⟩) hP).trans hc;have hP1:P < w1.heap.size:=Nat.lt_of_lt_of_le hP hb.size;unfold atV;go_enter func105,ntmps105;go_wp2_with fail;go_ret;exact⟨Z8 (by rw[show (st a.n).toList=a.n from Lib.toList_data _,show (st nm).toList=nm from Lib.toList_data _]),(Below.refl _ w1).alloc (Lr) _⟩
theorem q5n (args:Array Value) (w:World):(callFunc 105 args).run prog w=.ok (.enter 105 args) w:=Z7 func105 (by kernel_rfl) rfl _ _
theorem j4i (args:Array Value) (w:World):(callFunc 72 args).run prog w=.ok (.enter 72 args) w:=Z7 func72 (by kernel_rfl) rfl _ _

theorem q4j (l:List Mk.At) (v:Value) (K:Nat→Prop) (w:World) (hv:AtsV w K v l) (hK:∀ b,K b→b < w.heap.size) (hl:Mk.Fo.atB l≤33554432) :
  Calls prog 73 #[v,.func (.func 72) #[] #[]] w fun e w'=>e=.returned (.int .i64 (Mk.J3 Mk.isName [] l))∧Below w.heap.size w w':=by
 have hll:=Mk.z1l l;obtain⟨b,o,cap,hKb,hv1,hcl⟩:=hv.at_
 have HC:=Ld hcl;have EG:=Ld j4i;clear hcl;have eg:=j4i
 rcases hv1 with hv1 | ⟨ao,hv1,hl0⟩
 ·subst hv1
  have hcap:l.length≤cap:=by
   obtain⟨ao',cap',h1,_,h3,_⟩:=hv;injection h1 with _ _ e3;rw[e3];exact h3
  go_enter func73,ntmps73;go_wp2_with fail
  go_loopw [9] (fun i wr=>∃ k:Nat,k≤l.length∧i=.int .i64 k∧Hid (Mk.J3 Mk.isName [] l=Mk.J3 Mk.isName (l.take k) (l.drop k))∧Hid (Below w.heap.size w wr)) (fun i _=>l.length - (intOf i).toNat)
  case atStart=>exact⟨0,Nat.zero_le _,rfl,rfl,Below.refl _ _⟩
  case round =>
   obtain⟨k,hk,rfl,HA,BL⟩:=hrel;have hsz:=BL.out.size
   by_cases hlt:k < l.length
   ·have hb:b < w.heap.size:=hK b (hKb (by intro e;subst e;simp at hlt))
    obtain⟨c0,c1⟩:=HC.out k hlt;rw[← BL.out.cell (p:=⟨b,_,none⟩) hb] at c0 c1;have hmem:=Mk.q0k (List.getElem_mem hlt);have HD:Hid (Mk.J3 Mk.isName [] l=if !Mk.isName l[k].n then 1 else if Mk.z1d (l.take k) l[k].n then 6 else Mk.J3 Mk.isName (l.take (k + 1)) (l.drop (k + 1))):=by show _=_;rw[HA.out,Mk.z7m _ _ _ hlt]
    generalize l[k]=a at c0 c1 HD hmem;have hnm:=fun W=>z7f (st a.n) W (by rw[y9];omega)
    rw[z0b] at hnm;have hal:=(Below.refl wr.heap.size wr).alloc (Lr) (.cells #[.string (st a.n),.string (st a.v)] 73);have PB:=Ld (Blk.new wr 73 #[.string (st a.n),.string (st a.v)]);have BL1:=Ld (BL.out.trans (hal.mono hsz))
    cases hin:Mk.isName a.n with
    | false =>
     rw[hin] at HD hnm;have HN:=Ld hnm;clear hnm hin HC HA hal;go_wp2_with fail;refine(HN.out _).mono ?_;rintro e w2 ⟨rfl,rfl⟩;go_wp2_with fail;go_ret;exact⟨by rw[HD.out];rfl,BL1.out⟩
    | true =>
     rw[hin] at HD hnm;have HN:=Ld hnm;obtain⟨hh,hhe⟩:∃ hh,Mk.z1d (l.take k) a.n=hh:=⟨_,rfl⟩;rw[hhe] at HD;have hvw:AtsV (wr.alloc (.cells #[.string (st a.n),.string (st a.v)] 73)) K (.slice (some ⟨b,o,none⟩) k cap) (l.take k):=(AtsV.take hv k hk).below hK BL1.out;have hcf:=z14 105 #[.pointer (some ⟨wr.heap.size,0,none⟩)] (fun x=>x.n == a.n) q5n (l.take k) (.slice (some ⟨b,o,none⟩) k cap) K _ hvw (fun b hb=>Nat.lt_of_lt_of_le (hK b hb) BL1.out.size) (by rw[List.length_take];omega) (q0i wr.heap.size a.n (l.take k) _ (Blk.lt PB.out) (Blk.cell PB.out 0));rw[show (l.take k).any (fun x=>x.n == a.n)=hh from hhe] at hcf;have HCF:=Ld hcf;have hkc:(k:Int)≤cap:=by omega
     have hk0:(0:Int)≤k:=by omega
     clear hnm hin HC HA hal hvw hcf hhe
     cases hh with
     | true =>
      go_wp2_with fail;refine(HN.out _).mono ?_;rintro e w2 ⟨rfl,rfl⟩;go_wp2_with fail;refine HCF.out.mono ?_;rintro e w3 ⟨rfl,hb3⟩;have BL3:=Ld (BL1.out.trans (hb3.mono BL1.out.size));clear hb3 HCF;go_wp2_with fail;go_ret;exact⟨by rw[HD.out];rfl,BL3.out⟩
     | false =>
      go_wp2_with fail;refine(HN.out _).mono ?_;rintro e w2 ⟨rfl,rfl⟩;go_wp2_with fail;refine HCF.out.mono ?_;rintro e w3 ⟨rfl,hb3⟩;have BL3:=Ld (BL1.out.trans (hb3.mono BL1.out.size));clear hb3 HCF;go_wp2_with fail;go_roundw
      case rel=>exact⟨k + 1,by omega,by go_num,by show _=_;rw[HD.out];rfl,BL3⟩
      case measure=>simp[intOf];omega
   ·have hke:k=l.length:=by omega
    have HE:Hid (Mk.J3 Mk.isName [] l=0):=by show _=_;rw[HA.out,List.drop_of_length_le (by omega)];rfl
    clear HA HC;go_wp2_with fail;go_ret;exact⟨by rw[HE.out];rfl,BL.out⟩
 ·subst hl0
  subst hv1;clear HC hK;go_enter func73,ntmps73;go_wp2_with fail
  go_loopw [9] (fun i wr=>i=.int .i64 0∧wr=w) (fun _ _=>0)
  case atStart=>exact⟨rfl,rfl⟩
  case round =>
   obtain⟨rfl,rfl⟩:=hrel;go_wp2_with fail;go_ret;exact⟨rfl,Below.refl _ _⟩
def z0d (n:List UInt8) (va:Value) (t:List UInt8) (vk:Value):Value:=.agg #[.string (st n),va,.string (st t),vk]
theorem z16 (k:Mk.Fo) (h:k ≠ .nil):0 < k.len:=by
 cases k with
 | nil=>exact absurd rfl h
 | node _ _ _ _ _=>exact Nat.succ_pos _
theorem tr_node (names:List (List UInt8)) (n t:List UInt8) (a:List Mk.At) (k:Mk.Fo) (va vk vn:Value) (K:Nat→Prop) (w:World) (hva:AtsV w K va a) (hvk:FoV w K vk k) (hvn:z18 w K vn names) (hK:∀ b,K b→b < w.heap.size) (hnl:n.length≤33554432) (hl:Mk.Fo.atB a≤33554432) (hnm:names.length≤33554432) :
  Calls prog 66 #[z0d n va t vk,vn] w fun e w'=>e=.returned (.int .i64 (Mk.z0p names n a t k))∧Below w.heap.size w w':=by
 have hst:∀ l:List UInt8,(st l).toList=l:=fun l=>Lib.toList_data _
 obtain⟨aoa,capa,hva1,hva2⟩:=id hva;obtain⟨aok,capk,xsk,hvk1,hvk2⟩:=id hvk;subst hva1;subst hvk1;have hll:=Mk.z1l a;have hkl:=hvk2.2.2;have hkm:(maxLen:Int)≤9223372036854775807:=by unfold maxLen;omega
 have hal:=(Below.refl w.heap.size w).alloc (Lr) (.cells #[.string (st n),.slice aoa a.length capa,.string (st t),.slice aok k.len capk] 38);have AL:=Ld hal;clear hal hvk2 hvk;unfold z0d;generalize hla:a.length=la at *;generalize hlk:k.len=lk at *;have HLA:=Ld hla;have HLK:=Ld hlk;clear hla hlk hkl;have tE:∀ l:List UInt8,l ≠ []→l.isEmpty=false:=fun l h=>by
  cases l with
  | nil=>exact absurd rfl h
  | cons _ _=>rfl
 have TE:=Ld tE;clear tE
 by_cases hn:n=[]
 ·subst hn
  have hst0:(st []).toList=[]:=Lib.toList_data _;have e0:([]:List UInt8).isEmpty=true:=rfl
  by_cases ht:t=[]
  ·have HE:Hid (Mk.z0p names [] a t k=1):=by show _=_;simp[Mk.z0p,ht]
   subst ht;go_enter func66,ntmps66;go_wp2_with fail;go_ret;exact⟨z06 (by rw[HE.out]),AL.out⟩
  ·have ht2:=TE.out t ht
   by_cases ha:a=[]
   ·by_cases hk:k=.nil
    ·have HE:Hid (Mk.z0p names [] a t k=0):=by show _=_;simp[Mk.z0p,ht,ha,hk]
     have ha2:¬ 0 < la:=by rw[← HLA.out,ha];simp
     have hk2:¬ 0 < lk:=by rw[← HLK.out,hk];simp[Mk.Fo.len]
     clear ha hk;go_enter func66,ntmps66;go_wp2_with fail;go_ret;exact⟨z06 (by rw[HE.out]),AL.out⟩
    ·have HE:Hid (Mk.z0p names [] a t k=1):=by show _=_;simp[Mk.z0p,hk]
     have ha2:¬ 0 < la:=by rw[← HLA.out,ha];simp
     have hk2:0 < lk:=by rw[← HLK.out];exact z16 k hk
     clear ha hk;go_enter func66,ntmps66;go_wp2_with fail;go_ret;exact⟨z06 (by rw[HE.out]),AL.out⟩
   ·have HE:Hid (Mk.z0p names [] a t k=1):=by show _=_;simp[Mk.z0p,ha]
    have ha2:0 < la:=by rw[← HLA.out];exact List.length_pos_iff.2 ha
    go_enter func66,ntmps66;go_wp2_with fail;go_ret;exact⟨z06 (by rw[HE.out]),AL.out⟩
 ·have hn2:=TE.out n hn
  by_cases ht:t=[]
  ·subst ht
   have hst0:(st []).toList=[]:=Lib.toList_data _;have e0:([]:List UInt8).isEmpty=true:=rfl;have hnm1:=fun W=>z7f (st n) W (by rw[y9];exact hnl)
   rw[z0b] at hnm1;have hem:=fun W=>q52 n W
   obtain⟨bn,hbn⟩:∃ b,Mk.isName n=b:=⟨_,rfl⟩;obtain⟨be,hbe⟩:∃ b,Mk.z0n n=b:=⟨_,rfl⟩;rw[hbn] at hnm1;rw[hbe] at hem;have HN:=Ld hnm1;have HM:=Ld hem;clear hnm1 hem
   cases bn with
   | false =>
    have HE:Hid (Mk.z0p names n a [] k=1):=by show _=_;simp[Mk.z0p,hn,hbn]
    clear hbn hbe;go_enter func66,ntmps66;go_wp2_with fail;refine(HN.out _).mono ?_;rintro e w1 ⟨rfl,rfl⟩;go_wp2_with fail;go_ret;exact⟨z06 (by rw[HE.out]),AL.out⟩
   | true =>
    have REST:(be=false∨k=.nil)→Mk.z0p names n a [] k=(if Mk.J3 Mk.isName [] a ≠ 0 then Mk.J3 Mk.isName [] a else if Mk.stays names n < names.length then 4 else 0):=by
     intro h;have:¬ (([]:List UInt8) ≠ []∨(!Mk.isName n)=true∨(Mk.z0n n=true∧k ≠ .nil)):=by
      rw[hbn,hbe];rintro (q | q | ⟨q,q2⟩)
      ·exact q rfl
      ·cases q
      ·rcases h with h | h
       ·rw[h] at q;cases q
       ·exact q2 h
     unfold Mk.z0p;rw[if_neg hn,if_neg this]
    have AA:=q4j a (.slice aoa la capa) K;have HAA:=Ld AA;have HREST:=Ld REST;clear AA REST;obtain⟨ce,hce⟩:∃ c,Mk.J3 Mk.isName [] a=c:=⟨_,rfl⟩;obtain⟨sn,hsn⟩:∃ c,Mk.stays names n=c:=⟨_,rfl⟩;rw[hce,hsn] at HREST;rw[hce] at HAA;have HSN:=Ld hsn;clear hce hsn
    cases be with
    | true =>
     by_cases hk:k=.nil
     ·have hk2:¬ 0 < lk:=by rw[← HLK.out,hk];simp[Mk.Fo.len]
      have HE:=Ld (HREST.out (.inr hk));clear HREST hbn hbe hk;go_enter func66,ntmps66;go_wp2_with fail;refine(HN.out _).mono ?_;rintro e w1 ⟨rfl,hw1⟩;rw[hw1];clear hw1 w1;go_wp2_with fail;refine(HM.out _).mono ?_;rintro e w2 ⟨rfl,hw2⟩;rw[hw2];clear hw2 w2;have HA:=Ld (HAA.out (w.alloc (.cells #[.string (st n),.slice aoa la capa,.string (st []),.slice aok lk capk] 38)) (hva.below hK AL.out) (fun b hb=>Nat.lt_of_lt_of_le (hK b hb) AL.out.size) hl);clear HAA;go_wp2_with fail;refine HA.out.mono ?_;rintro e w3 ⟨rfl,hb3⟩;have L3:=Ld (AL.out.trans (hb3.mono AL.out.size));have PB:=Ld (Blk.below (Blk.new w 38 #[.string (st n),.slice aoa la capa,.string (st []),.slice aok lk capk]) hb3 (Blk.lt (Blk.new w _ _)));have p0:w3.cell? ⟨w.heap.size,0,none⟩=some (.string (st n)):=Blk.cell PB.out 0;have HS:=Ld (q55 names n vn K w3 (hvn.below hK L3.out) hnm);rw[HSN.out] at HS;clear hb3 HA
      by_cases hc0:ce=0
      ·subst hc0
       obtain⟨aon,capn,hvn1,_⟩:=hvn;subst hvn1;go_wp2_with fail;refine HS.out.mono ?_;rintro e w4 ⟨rfl,rfl⟩
       by_cases hlt:sn < names.length
       ·have hlt2:(sn:Int) < names.length:=by omega
        go_wp2_with fail;go_ret;exact⟨z06 (by rw[HE.out,if_neg (by simp),if_pos hlt]),L3.out⟩
       ·have hlt2:¬ (sn:Int) < names.length:=by omega
        go_wp2_with fail;go_ret;exact⟨z06 (by rw[HE.out,if_neg (by simp),if_neg hlt]),L3.out⟩
      ·have hc1:(ce == 0)=false:=beq_eq_false_iff_ne.2 hc0
       go_wp2_with fail;go_ret;exact⟨z06 (by rw[HE.out,if_pos hc0]),L3.out⟩
     ·have HE:Hid (Mk.z0p names n a [] k=1):=by show _=_;simp[Mk.z0p,hn,hbn,hbe,hk]
      have hk2:0 < lk:=by rw[← HLK.out];exact z16 k hk
      clear hbn hbe HREST HAA;go_enter func66,ntmps66;go_wp2_with fail;refine(HN.out _).mono ?_;rintro e w1 ⟨rfl,rfl⟩;go_wp2_with fail;refine(HM.out _).mono ?_;rintro e w2 ⟨rfl,rfl⟩;go_wp2_with fail;go_ret;exact⟨z06 (by rw[HE.out]),AL.out⟩
    | false =>
     have HE:=Ld (HREST.out (.inl rfl));clear HREST hbn hbe;go_enter func66,ntmps66;go_wp2_with fail;refine(HN.out _).mono ?_;rintro e w1 ⟨rfl,hw1⟩;rw[hw1];clear hw1 w1;go_wp2_with fail;refine(HM.out _).mono ?_;rintro e w2 ⟨rfl,hw2⟩;rw[hw2];clear hw2 w2;have HA:=Ld (HAA.out (w.alloc (.cells #[.string (st n),.slice aoa la capa,.string (st []),.slice aok lk capk] 38)) (hva.below hK AL.out) (fun b hb=>Nat.lt_of_lt_of_le (hK b hb) AL.out.size) hl);clear HAA;go_wp2_with fail;refine HA.out.mono ?_;rintro e w3 ⟨rfl,hb3⟩;have L3:=Ld (AL.out.trans (hb3.mono AL.out.size));have PB:=Ld (Blk.below (Blk.new w 38 #[.string (st n),.slice aoa la capa,.string (st []),.slice aok lk capk]) hb3 (Blk.lt (Blk.new w _ _)));have p0:w3.cell? ⟨w.heap.size,0,none⟩=some (.string (st n)):=Blk.cell PB.out 0;have HS:=Ld (q55 names n vn K w3 (hvn.below hK L3.out) hnm);rw[HSN.out] at HS;clear hb3 HA
     by_cases hc0:ce=0
     ·subst hc0
      obtain⟨aon,capn,hvn1,_⟩:=hvn;subst hvn1;go_wp2_with fail;refine HS.out.mono ?_;rintro e w4 ⟨rfl,rfl⟩
      by_cases hlt:sn < names.length
      ·have hlt2:(sn:Int) < names.length:=by omega
       go_wp2_with fail;go_ret;exact⟨z06 (by rw[HE.out,if_neg (by simp),if_pos hlt]),L3.out⟩
      ·have hlt2:¬ (sn:Int) < names.length:=by omega
       go_wp2_with fail;go_ret;exact⟨z06 (by rw[HE.out,if_neg (by simp),if_neg hlt]),L3.out⟩
     ·have hc1:(ce == 0)=false:=beq_eq_false_iff_ne.2 hc0
      go_wp2_with fail;go_ret;exact⟨z06 (by rw[HE.out,if_pos hc0]),L3.out⟩
  ·have HE:Hid (Mk.z0p names n a t k=1):=by show _=_;simp[Mk.z0p,hn,ht]
   have ht2:=TE.out t ht;go_enter func66,ntmps66;go_wp2_with fail;go_ret;exact⟨z06 (by rw[HE.out]),AL.out⟩
def KT (w:World) (B:Nat) (b:Nat):Prop:=B≤b∧∃ cs f,w.heap[b]? = some (.cells cs 73 f)
theorem KT.lt {w:World} {B b:Nat} (h:KT w B b):b < w.heap.size:=by
 obtain⟨_,cs,f,h⟩:=h
 rcases Nat.lt_or_ge b w.heap.size with h' | h'
 ·exact h'
 ·rw[Array.getElem?_eq_none h'] at h;cases h
theorem KT.ne {w:World} {B b g:Nat} {T:TypeId} {cs:Array Value} (h:KT w B b) (hg:∃ f,w.heap[g]? = some (.cells cs T f)) (hT:73 ≠ T):b ≠ g:=by
 rintro rfl;obtain⟨_,cs',f',h⟩:=h;obtain⟨f,hg⟩:=hg;rw[hg] at h;injection h with h;injection h with h1 h2 h3;exact hT h2.symm
theorem KT.keep {w w':World} {B b:Nat} (h:KT w B b) (hb:w'.heap[b]? = w.heap[b]?):KT w' B b∧w'.heap[b]? = w.heap[b]?:=⟨⟨h.1,by rw[hb];exact h.2⟩,hb⟩
theorem X8 {S:Nat→Prop} {w w':World} {B size n:Nat} {e:TypeId} {v:Value} {xs:List Value} (h:w.ownsRow B e size v n xs) (ha:Ap S w w') (hS:∀ g,v.ownBlock=some g→¬ S g):w'.ownsRow B e size v n xs:=by
 refine⟨h.1,h.2.imp id ?_⟩;rintro ⟨g,cap,cur,h1,h2,h3,h4⟩;have hlt:g < w.heap.size:=by
  rcases Nat.lt_or_ge g w.heap.size with h' | h'
  ·exact h'
  ·rw[Array.getElem?_eq_none h'] at h3;cases h3
 exact⟨g,cap,cur,h1,h2,(ha.block g hlt (hS g (by rw[h1];rfl))).trans h3,h4⟩
structure RdO (w:World) (B R:Nat) (s:ByteArray) (k:Nat) (tx:List UInt8) (ts:List Mk.Tok) (ov:Value) (xs:List Value):Prop where
 hB:1 < B
 hBR:B≤R
 rd:Rd w R s k tx ov
 own:w.ownsRow B 52 4 ov ts.length xs
 cells:z0j w (KT w B) ts xs
 ne:ov.ownBlock ≠ some R
def RdS (w:World) (B R:Nat) (s:ByteArray) (k:Nat) (tx:List UInt8) (ts:List Mk.Tok):Prop:=∃ ov xs,RdO w B R s k tx ts ov xs
section
variable {w w' : World} {B R : Nat} {s : ByteArray} {k : Nat} {tx : List UInt8} {ts : List Mk.Tok} {ov : Value} {xs : List Value}
theorem RdO.next (h:RdO w B R s k tx ts ov xs) {j:Nat} {ty:List UInt8} (ha:Ap (fun b=>b=R) w w') (hr:Rd w' R s j ty ov):RdO w' B R s j ty ts ov xs :=
 ⟨h.hB,h.hBR,hr,X8 h.own ha (fun g hg e=>h.ne (by rw[hg,show g=R from e])),h.cells.frame fun b hb=>hb.keep (ha.block b hb.lt (fun e=>hb.ne ⟨_,h.rd⟩ (by decide) e)),h.ne⟩
theorem RdO.rlt (h:RdO w B R s k tx ts ov xs):R < w.heap.size:=Blk.lt h.rd
theorem RdO.below (h:RdO w B R s k tx ts ov xs) (hb:Below w.heap.size w w'):RdO w' B R s k tx ts ov xs :=
 h.next (Ap.of_below hb) (h.rd.ap_far (Ap.of_below (S:=fun _=>False) hb) (fun q=>q))
theorem RdO.setText (h:RdO w B R s k tx ts ov xs) (ty:List UInt8):RdO (w.setCell ⟨R,2,none⟩ (.string (st ty))) B R s k ty ts ov xs :=
 h.next ((Ap.refl (fun b=>b=R) w).setCell (p:=⟨R,2,none⟩) rfl _) (Blk.set_ h.rd 2 _)
theorem RdO.setAt (h:RdO w B R s k tx ts ov xs) (j:Nat):RdO (w.setCell ⟨R,1,none⟩ (.int .i64 j)) B R s j tx ts ov xs :=
 h.next ((Ap.refl (fun b=>b=R) w).setCell (p:=⟨R,1,none⟩) rfl _) (h.rd.at_ j)
theorem RdO.blt (h:RdO w B R s k tx ts ov xs):B≤w.heap.size:=Nat.le_trans h.hBR (Nat.le_of_lt h.rlt)
def q09 (t:Mk.Tok) (va:Value):List Value:=[.int .i64 t.kind,.string (st t.name),va,.string (st t.text)]
theorem RdO.push (h:RdO w B R s k tx ts ov xs) {t:Mk.Tok} {va:Value} (ha:AtsV w (KT w B) va t.ats) {w1 w2:World} {v':Value} (h1:Below w.heap.size w w1) (hown:w2.ownsRow B 52 4 v' (ts.length + 1) (xs++q09 t va)) (hg:w1.grownBy w2 ov.ownBlock) (hf:v'.ownBlock=ov.ownBlock∨v'.ownBlock=some w1.heap.size) :
  RdS (w2.setCell ⟨R,3,none⟩ v') B R s k tx (ts++[t])∧Below B w (w2.setCell ⟨R,3,none⟩ v')∧Ap (fun b=>b=R∨ov.ownBlock=some b) w (w2.setCell ⟨R,3,none⟩ v'):=by
 have hlt:=h.rlt;have hl1:R < w1.heap.size:=Nat.lt_of_lt_of_le hlt h1.size;have hne:v'.ownBlock ≠ some R:=by
  rcases hf with e | e
  ·rw[e];exact h.ne
  ·rw[e];intro q;injection q with q;omega
 have hkeep:∀ b,KT w B b→KT (w2.setCell ⟨R,3,none⟩ v') B b∧(w2.setCell ⟨R,3,none⟩ v').heap[b]? = w.heap[b]?:=by
  intro b hb;refine hb.keep ?_;rw[Below.heap_setCell w2 ⟨R,3,none⟩ v' b (fun e=>hb.ne ⟨_,h.rd⟩ (by decide) e)];rw[hg.block b (Nat.lt_of_lt_of_le hb.lt h1.size) ?_]
  ·exact h1.block b hb.lt
  ·intro e
   rcases h.own.2 with ⟨hv,_⟩ | ⟨g,cap,cur,hv,_,hh,_⟩
   ·rw[hv] at e;cases e
   ·rw[hv] at e
    injection e with e;exact hb.ne ⟨_,hh⟩ (by decide) e
 refine⟨⟨v',xs++q09 t va,h.hB,h.hBR,?_,?_,?_,hne⟩,?_⟩
 ·have hr:Rd w2 R s k tx ov:=(hg.block R hl1 (fun e=>h.ne e.symm)).trans ((h1.block R hlt).trans h.rd)
  exact Blk.set_ hr 3 v'
 ·rw[List.length_append]
  exact ownsRow_setCell_other hown (a:=⟨R,3,none⟩) hne v'
 ·exact(h.cells.frame hkeep).snoc (ha.frame hkeep)
 ·refine⟨Below.setCell ?_ (p:=⟨R,3,none⟩) h.hBR v',?_⟩
  ·exact(h1.mono h.blt).grown hg (Nat.le_trans h.blt h1.size) (fun k hk=>(h.own.lt k hk).1)
  ·refine((Ap.of_below h1).grown hg (fun k _ e=>.inr e)).setCell (p:=⟨R,3,none⟩) (.inl rfl) v'
end
theorem Y1 {w:World} {B size n:Nat} {e:TypeId} {v:Value} {xs:List Value} (h:w.ownsRow B e size v n xs):∃ ao cap,v=.slice ao n cap:=by
 rcases h.2 with ⟨hv,hn⟩ | ⟨g,cap,cur,hv,_⟩
 ·exact⟨none,0,by rw[hv,hn]⟩
 ·exact⟨_,_,hv⟩
theorem Tryz.infoTok:(prog.info? 52).map (fun i=>(i.zero,i.size,i.bytes))=some (some (.agg #[.int .i64 0,.string ⟨#[]⟩,.slice none 0 0,.string ⟨#[]⟩]),4,64):=by kernel_rfl

theorem q4o {w:World} {B R:Nat} {s:ByteArray} {k:Nat} {tx:List UInt8} {ts:List Mk.Tok} (hg:Gl w) {ov:Value} {xs:List Value} (h:RdO w B R s k tx ts ov xs) (htx:tx.length≤1048576) (hts:ts.length≤1048576) :
  Calls prog 56 #[.pointer (some ⟨R,0,none⟩)] w fun e w'=>e=.returned (.tuple #[])∧RdS w' B R s k [] (Mk.flush tx ts)∧Below B w w'∧Ap (fun b=>b=R∨ov.ownBlock=some b) w w':=by
 have c2:=h.rd.c2;have ht:=q17 (st tx) w (by rw[y9];exact htx) hg;rw[z0b] at ht;have HT:=Ld ht;have H:=Ld h;clear ht h;go_enter func56,ntmps56;go_wp2_with fail;refine HT.out.mono ?_;rintro e w1 ⟨rfl,hb1⟩;have H1:=Ld (H.out.below hb1);have L1:=Ld (hb1.mono H.out.blt);have A1:=Ld (Ap.of_below (S:=fun b=>b=R∨ov.ownBlock=some b) hb1);have HF:Hid (Mk.flush tx ts=if (Mk.take tx).1=[] then ts else ts++[⟨1,[],[],(Mk.take tx).1⟩]):=by show _=_;rfl
 clear HT hb1 H c2;generalize (Mk.take tx).2=bb;generalize (Mk.take tx).1=t at HF ⊢;have hst:(st t).toList=t:=Lib.toList_data _;have f2:=H1.out.rd.fz 2;have f3:=H1.out.rd.fz 3;have c2:=H1.out.rd.c2;have c3:=H1.out.rd.c3
 by_cases h0:t=[]
 ·subst h0
  rw[if_pos rfl] at HF;have hst:(st []).toList=[]:=Lib.toList_data _;go_wp2_with fail;go_end0;exact⟨rfl,by rw[HF.out];exact⟨_,_,H1.out.setText []⟩,L1.out.setCell (p:=⟨R,2,none⟩) H1.out.hBR _,A1.out.setCell (p:=⟨R,2,none⟩) (.inl rfl) _⟩
 ·rw[if_neg h0] at HF
  have he:t.isEmpty=false:=by
   cases t with
   | nil=>exact absurd rfl h0
   | cons _ _=>rfl
  obtain⟨i0,hi,hz0,hz1,hz2⟩:=info_parts Tryz.infoTok;have hbl:=H1.out.blt;have ow10:=X8 H1.out.own ((Ap.refl (fun _=>False) w1).alloc (.cells #[.int .i64 1,.string ⟨#[]⟩,.slice none 0 0,.string (st t)] 52)) (fun _ _ q=>q);have hb11:Below w1.heap.size w1 (w1.alloc (.cells #[.int .i64 1,.string ⟨#[]⟩,.slice none 0 0,.string (st t)] 52)):=(Below.refl _ w1).alloc (Lr) _;go_wp2_with (at_builtin;refine Q9 rfl _ _ 27 rfl B 52 i0 (.agg #[.int .i64 0,.string ⟨#[]⟩,.slice none 0 0,.string ⟨#[]⟩]) 4 64 underlying27 hi hz0 hz1 hz2 rfl (by decide) _ _ _ rfl ow10 ⟨w1.heap.size,0,none⟩ 1 1 [.int .i64 1,.string ⟨#[]⟩,.slice none 0 0,.string (st t)] rfl rfl (Y9 _ _ _) (by intro u hu;simp at hu;rcases hu with rfl | rfl | rfl | rfl <;> rfl) (by decide) (by unfold maxLen;omega) (by omega) (by simp;omega) ?_);intro v' w2 hown' hgrow hfresh;obtain⟨r1,r2,r3⟩:=H1.out.push (t:=⟨1,[],[],t⟩) (va:=.slice none 0 0) (AtsV.nil _ _) hb11 hown' hgrow (hfresh.imp id (fun e=>by rw[e];simp));have R1:=Ld r1;have R2:=Ld r2;have R3:=Ld r3;have f3':w2.frozen? ⟨R,3,none⟩=false:=by
   obtain⟨_,_,r⟩:=r1;have:=r.rd.fz 3
   rwa [World.frozen?_setCell] at this
  have c3':w2.cell? ⟨R,3,none⟩=some ov:=by
   have hR:Rd w2 R s k tx ov:=(hgrow.block R (Nat.lt_of_lt_of_le H1.out.rlt hb11.size) (fun e=>H1.out.ne e.symm)).trans ((hb11.block R H1.out.rlt).trans H1.out.rd);exact hR.c3
  have f2':(w2.setCell ⟨R,3,none⟩ v').frozen? ⟨R,2,none⟩=false:=by
   obtain⟨_,_,r⟩:=r1;exact r.rd.fz 2
  have c2':(w2.setCell ⟨R,3,none⟩ v').cell? ⟨R,2,none⟩=some (.string (st tx)):=by
   obtain⟨_,_,r⟩:=r1;exact r.rd.c2
  obtain⟨ao,cap,rfl⟩:=Y1 hown';clear hown' hgrow hfresh r1 r2 r3 ow10 hb11 f2 f3 c2 c3;go_wp2_with fail;go_end0;refine⟨rfl,?_,(L1.out.trans R2.out).setCell (p:=⟨R,2,none⟩) H1.out.hBR _,(A1.out.trans R3.out).setCell (p:=⟨R,2,none⟩) (.inl rfl) _⟩;rw[HF.out];obtain⟨ov2,xs2,r⟩:=R1.out;exact⟨_,_,r.setText []⟩

def Keeps (w w':World):Prop:=∀ (b:Nat) (cs:Array Value) (f:Nat × Nat),w.heap[b]? = some (Obj.cells cs 4 f)→w'.heap[b]? = some (Obj.cells cs 4 f)
structure Fr (B:Nat) (w w':World):Prop where
 below:Below B w w'
 keeps:Keeps w w'
theorem Fr.refl (B:Nat) (w:World):Fr B w w:=⟨Below.refl B w,fun _ _ _ h=>h⟩
theorem Fr.trans {B:Nat} {a b c:World} (h:Fr B a b) (k:Fr B b c):Fr B a c:=⟨h.below.trans k.below,fun i cs f q=>k.keeps i cs f (h.keeps i cs f q)⟩
theorem Fr.drewN {B:Nat} {a b:World} (h:Fr B a b) (n:Nat):Fr B a (b.drewN n):=⟨below_drewN h.below n,h.keeps⟩
theorem Fr.drew {B:Nat} {a b:World} (h:Fr B a b):Fr B a b.drew:=⟨h.below.drew,h.keeps⟩
theorem lt_of_heap {w:World} {b:Nat} {o:Obj} (h:w.heap[b]? = some o):b < w.heap.size:=by
 rcases Nat.lt_or_ge b w.heap.size with h' | h'
 ·exact h'
 ·rw[Array.getElem?_eq_none h'] at h;cases h
theorem z1z {w:World} {b g:Nat} {cs cs':Array Value} {f f':Nat × Nat} {T T':TypeId} (h:w.heap[b]? = some (.cells cs T f)) (hg:w.heap[g]? = some (.cells cs' T' f')) (hT:T ≠ T'):b ≠ g:=by
 rintro rfl;rw[hg] at h;injection h with h;injection h with h1 h2 h3;exact hT h2.symm
section
variable {w w' : World} {B R : Nat} {s : ByteArray} {k : Nat} {tx : List UInt8} {ts : List Mk.Tok} {ov : Value} {xs : List Value}
theorem Fr.of_below (h:RdO w B R s k tx ts ov xs) (hb:Below w.heap.size w w'):Fr B w w':=⟨hb.mono h.blt,fun b _ _ q=>(hb.block b (lt_of_heap q)).trans q⟩
theorem Fr.of_ap (h:RdO w B R s k tx ts ov xs) (ha:Ap (fun b=>b=R) w w'):Fr B w w' :=
 ⟨ha.below h.blt (fun k hk e=>by have e:k=R:=e;have:=h.hBR;omega),fun b _ _ q=>(ha.block b (lt_of_heap q) (fun e=>z1z q h.rd (by decide) e)).trans q⟩
theorem Fr.of_push (h:RdO w B R s k tx ts ov xs) (hb:Below B w w') (ha:Ap (fun b=>b=R∨ov.ownBlock=some b) w w'):Fr B w w':=by
 refine⟨hb,fun b _ _ q=>(ha.block b (lt_of_heap q) ?_).trans q⟩;rintro (e | e)
 ·exact z1z q h.rd (by decide) e
 ·rcases h.own.2 with ⟨hv,_⟩ | ⟨g,cap,cur,hv,_,hh,_⟩
  ·rw[hv] at e;cases e
  ·rw[hv] at e
   injection e with e;exact z1z q hh (by decide) e.symm
theorem Fr.tok {P:Nat} {cs:Array Value} (hP:Blk w P 52 cs) (hB:B≤P) (i:Nat) (v:Value):Fr B w (w.setCell ⟨P,i,none⟩ v) :=
 ⟨(Below.refl B w).setCell (p:=⟨P,i,none⟩) hB v,fun b _ _ q=>(Below.heap_setCell w ⟨P,i,none⟩ v b (fun e=>z1z q hP (by decide) e)).trans q⟩
theorem Fr.own (h:RdO w B R s k tx ts ov xs) (i:Nat) (v:Value):Fr B w (w.setCell ⟨R,i,none⟩ v):=Fr.of_ap h ((Ap.refl (fun b=>b=R) w).setCell (p:=⟨R,i,none⟩) rfl v)
end
end Go.Proofs.YtagleefekmdldaaGreatDoor
