/- The plain law of tokens: what is read is right; what is printed is read as it was. No program in sight. -/
import Derived.Test.YtjonkbdldebkiaaGreatDoorYMkStay1
set_option linter.unusedVariables false
set_option linter.unusedSimpArgs false
set_option maxRecDepth 100000
namespace Mk
open Bld
theorem q75:∀ (n:Nat) (r:Bs) (out l:List At) (rest:Bs),Q9 isName [] out=0→z06 n r out=some (l,rest)→Q9 isName [] l=0
 | 0,_,_,_,_,_,h=>by cases h
 | n + 1,r,out,l,rest,ho,h=>by
  unfold z06 at h
  split at h
  ·cases h
  ·split at h
   ·injection h with h
    injection h with h1 h2;rw[← h1];exact ho
   ·simp only at h
    split at h
    ·cases h
    ·rename_i c t _ _ v r4 _
     refine q75 n r4 _ l rest ?_ h
     split
     ·rename_i hq
      obtain⟨q1,q2⟩:=Bool.and_eq_true_iff.1 hq;have key:∀ (m seen:List At) (a:At),Q9 isName seen m=0→isName a.n=true→z0x (seen++m) a.n=false→Q9 isName seen (m++[a])=0:=by
       intro m
       induction m with
       | nil=>intro seen a _ p1 p2;exact(z1e ..).2 ⟨p1,by simpa using p2,rfl⟩
       | cons b m ih =>
        intro seen a p0 p1 p2;obtain⟨b1,b2,b3⟩:=(z1e ..).1 p0;exact(z1e ..).2 ⟨b1,b2,ih (seen++[b]) a b3 p1 (by rw[List.append_assoc];exact p2)⟩
      exact key out [] _ ho q1 (by simpa using q2)
     ·exact ho
theorem q1k (text:Bs) (out:List Tok) (h:∀ t ∈ out,z3m t):∀ t ∈ flush text out,z3m t:=by
 unfold flush;simp only
 split
 ·exact h
 ·rename_i hn
  intro t ht
  rcases List.mem_append.1 ht with q | q
  ·exact h t q
  ·rw[List.mem_singleton.1 q]
   exact .inl ⟨rfl,rfl,rfl,hn⟩
theorem j8y (r:Bs) (t:Tok) (rest:Bs) (h:hereAt r=.tag t rest):z3m t:=by
 unfold hereAt at h
 split at h
 ·unfold z5c at h
  simp only at h
  split at h
  ·cases h
  ·rename_i l rest' ha
   split at h
   ·rename_i hn
    injection h with h1 h2;rw[← h1];exact .inr (.inl ⟨rfl,hn,q75 _ _ [] l rest' rfl ha,rfl⟩)
   ·cases h
 ·split at h
  ·unfold z2g at h
   simp only at h
   split at h
   ·cases h
   ·split at h
    ·rename_i hn
     injection h with h1 h2;rw[← h1];exact .inr (.inr ⟨rfl,hn,rfl,rfl⟩)
    ·cases h
  ·split at h
   ·unfold z1g at h
    split at h <;> cases h
   ·split at h
    ·unfold z1g at h
     split at h <;> cases h
    ·cases h
theorem z9l:∀ (n:Nat) (r text:Bs) (out:List Tok),(∀ t ∈ out,z3m t)→∀ t ∈ z0p n r text out,z3m t
 | 0,r,text,out,h=>by
  have e:z0p 0 r text out=flush text out:=by unfold z0p;rfl
  rw[e];exact q1k text out h
 | n + 1,[],text,out,h=>by
  have e:z0p (n + 1) [] text out=flush text out:=by unfold z0p;rfl
  rw[e];exact q1k text out h
 | n + 1,c :: t,text,out,h=>by
  unfold z0p
  split
  ·split
   ·exact z9l n _ _ out h
   ·exact q1k _ out h
   ·exact z9l n _ _ out h
   ·rename_i k rest hk
    refine z9l n _ _ _ (fun x q=>?_)
    rcases List.mem_append.1 q with q | q
    ·exact q1k text out h x q
    ·rw[List.mem_singleton.1 q]
     exact j8y _ k rest hk
  ·exact z9l n _ _ out h
theorem q6o (s:Bs):∀ t ∈ toks s,z3m t:=z9l _ _ _ _ (fun _ q=>by cases q)
theorem z5h:∀ (t:Bs) (n:Nat),(put t).length≤n→takeN n (put t)=(t,true)
 | [],n,_=>by cases n <;> rfl
 | c :: t,n,h=>by
  have e:put (c :: t)=esc c++put t:=rfl;rw[e,List.length_append] at h;rw[e]
  by_cases h1:c=38
  ·subst h1
   have e1:esc 38=[38,97,109,112,59]:=rfl;rw[e1] at h ⊢
   cases n with
   | zero=>simp at h
   | succ n =>
    have ih:=z5h t n (by simp at h;omega);have hs:sign ([38,97,109,112,59]++put t)=([38],5,true):=by simp[sign,named,Mg.pre]
    show takeN (n + 1) (38 :: ([97,109,112,59]++put t))=_;rw[takeN,if_pos rfl];have hs':sign (38 :: ([97,109,112,59]++put t))=([38],5,true):=hs;simp only [hs'];show ([38]++(takeN n (put t)).1,true && (takeN n (put t)).2)=_;rw[ih];rfl
  by_cases h2:c=60
  ·subst h2
   have e1:esc 60=[38,108,116,59]:=rfl;rw[e1] at h ⊢
   cases n with
   | zero=>simp at h
   | succ n =>
    have ih:=z5h t n (by simp at h;omega);have hs:sign (38 :: ([108,116,59]++put t))=([60],4,true):=by simp[sign,named,Mg.pre]
    show takeN (n + 1) (38 :: ([108,116,59]++put t))=_;rw[takeN,if_pos rfl];simp only [hs];show ([60]++(takeN n (put t)).1,true && (takeN n (put t)).2)=_;rw[ih];rfl
  by_cases h3:c=62
  ·subst h3
   have e1:esc 62=[38,103,116,59]:=rfl;rw[e1] at h ⊢
   cases n with
   | zero=>simp at h
   | succ n =>
    have ih:=z5h t n (by simp at h;omega);have hs:sign (38 :: ([103,116,59]++put t))=([62],4,true):=by simp[sign,named,Mg.pre]
    show takeN (n + 1) (38 :: ([103,116,59]++put t))=_;rw[takeN,if_pos rfl];simp only [hs];show ([62]++(takeN n (put t)).1,true && (takeN n (put t)).2)=_;rw[ih];rfl
  by_cases h4:c=34
  ·subst h4
   have e1:esc 34=[38,113,117,111,116,59]:=rfl;rw[e1] at h ⊢
   cases n with
   | zero=>simp at h
   | succ n =>
    have ih:=z5h t n (by simp at h;omega);have hs:sign (38 :: ([113,117,111,116,59]++put t))=([34],6,true):=by simp[sign,named,Mg.pre]
    show takeN (n + 1) (38 :: ([113,117,111,116,59]++put t))=_;rw[takeN,if_pos rfl];simp only [hs];show ([34]++(takeN n (put t)).1,true && (takeN n (put t)).2)=_;rw[ih];rfl
  ·have e1:esc c=[c]:=by unfold esc;rw[if_neg h1,if_neg h2,if_neg h3,if_neg h4]
   rw[e1] at h ⊢
   cases n with
   | zero=>simp at h
   | succ n =>
    have ih:=z5h t n (by simp at h;omega);show takeN (n + 1) (c :: put t)=_;rw[takeN,if_neg h1];simp only [ih]
theorem j2m (t:Bs):take (put t)=(t,true):=z5h t _ (Nat.le_refl _)
theorem put_mem (t:Bs):∀ x ∈ put t,x ≠ 34∧x ≠ 60:=by
 intro x hx;obtain⟨c,_,hc⟩:=List.mem_flatMap.1 hx;clear hx;unfold esc at hc
 split at hc
 ·revert x;decide
 ·split at hc
  ·revert x;decide
  ·split at hc
   ·revert x;decide
   ·split at hc
    ·revert x;decide
    ·rename_i h1 h2 h3 h4
     rw[List.mem_singleton.1 hc];exact⟨h4,h2⟩
def nameB (x:UInt8):Bool:=small x || Mg.V7 x || x == 45
theorem z5b:∀ x,nameB x=true→Y3 x=true∧z01 x=true∧Mg.low x=x∧(white x || x == 47)=false∧x ≠ 62:=Mg.z0i (fun x=>nameB x=true→Y3 x=true∧z01 x=true∧Mg.low x=x∧(white x || x == 47)=false∧x ≠ 62) (by decide)
theorem q8q:∀ x,small x=true→Mg.isLet x=true∧nameB x=true∧x ≠ 47∧x ≠ 33∧x ≠ 63:=Mg.z0i (fun x=>small x=true→Mg.isLet x=true∧nameB x=true∧x ≠ 47∧x ≠ 33∧x ≠ 63) (by decide)
theorem q2v:∀ (l:Bs) (b:Bool),z3c b l=true→∀ x ∈ l,nameB x=true
 | [],_,_,_,h=>by cases h
 | c :: t,b,h,x,hx=>by
  unfold z3c at h;obtain⟨h1,h2⟩:=Bool.and_eq_true_iff.1 h
  rcases List.mem_cons.1 hx with q | q
  ·rw[q]
   unfold nameB
   rcases Bool.or_eq_true_iff.1 h1 with p | p
   ·rw[p];rfl
   ·rw[Bool.or_assoc,(Bool.and_eq_true_iff.1 p).2,Bool.or_true]
  ·exact q2v t false h2 x q
theorem q05 {n:Bs} (h:isName n=true):∃ c t,n=c :: t∧small c=true∧∀ x ∈ n,nameB x=true:=by
 unfold isName at h;obtain⟨h1,h2⟩:=Bool.and_eq_true_iff.1 h
 cases n with
 | nil=>simp at h1
 | cons c t =>
  refine⟨c,t,rfl,?_,q2v _ _ h2⟩;unfold z3c at h2;have:=(Bool.and_eq_true_iff.1 h2).1
  simpa using this
theorem q2w {n:Bs} (h:∀ x ∈ n,nameB x=true):Mg.fold n=n:=by
 unfold Mg.fold;rw[List.map_congr_left (fun x q=>(z5b x (h x q)).2.2.1),List.map_id']
theorem z2x (a:At) (l:List At):written (a :: l)=32 :: (a.n++(61 :: 34 :: (put a.v++(34 :: written l)))):=by
 unfold written;rw[List.flatMap_cons];simp
theorem q3u:∀ (l:List At) (n:Nat) (out:List At) (R:Bs),Q9 isName out l=0→l.length + 1≤n→z06 n (written l++62 :: R) out=some (out++l,R)
 | [],n,out,R,_,hn=>by
  cases n with
  | zero=>omega
  | succ n =>
   show z06 (n + 1) (62 :: R) out=_;unfold z06;have e:(62 :: R).dropWhile (fun c=>white c || c == 47)=62 :: R:=List.dropWhile_cons_of_neg (by decide);rw[e];simp
 | a :: l,n,out,R,h,hn=>by
  obtain⟨h1,h2,h3⟩:=(z1e ..).1 h;obtain⟨c,t,hc,hs,hb⟩:=q05 h1
  cases n with
  | zero=>omega
  | succ n =>
   have ih:=q3u l n (out++[a]) R h3 (by simp at hn;omega);rw[z2x,hc];have hbc:=hb c (by rw[hc];simp);have hbt:∀ x ∈ t,nameB x=true:=fun x q=>hb x (by rw[hc];simp[q])
   obtain⟨y1,y2,y3,y4,y5⟩:=z5b c hbc;have e1:((32 :: (c :: t++(61 :: 34 :: (put a.v++(34 :: written l)))))++62 :: R).dropWhile (fun c=>white c || c == 47)=c :: (t++(61 :: 34 :: (put a.v++(34 :: (written l++62 :: R))))):=by
    simp only [List.cons_append,List.append_assoc];rw[List.dropWhile_cons_of_pos (by decide),List.dropWhile_cons_of_neg (by simp[y4])]
   unfold z06;rw[e1];simp only;rw[if_neg y5];have e2:(t++(61 :: 34 :: (put a.v++(34 :: (written l++62 :: R))))).takeWhile z01=t:=by
    rw[List.takeWhile_append_of_pos (fun x q=>(z5b x (hbt x q)).2.1),List.takeWhile_cons_of_neg (by decide),List.append_nil]
   have e3:(t++(61 :: 34 :: (put a.v++(34 :: (written l++62 :: R))))).dropWhile z01=61 :: 34 :: (put a.v++(34 :: (written l++62 :: R))):=by
    rw[List.dropWhile_append_of_pos (fun x q=>(z5b x (hbt x q)).2.1),List.dropWhile_cons_of_neg (by decide)]
   have e4:(61 :: 34 :: (put a.v++(34 :: (written l++62 :: R)))).dropWhile white=61 :: 34 :: (put a.v++(34 :: (written l++62 :: R))):=List.dropWhile_cons_of_neg (by decide);rw[e2,e3,e4];have e5:Mg.fold (c :: t)=a.n:=by rw[← hc];exact q2w hb
   have e6:valueOf (34 :: (put a.v++(34 :: (written l++62 :: R))))=some (put a.v,written l++62 :: R):=by
    unfold valueOf;rw[List.dropWhile_cons_of_neg (by decide)];simp only;rw[if_pos (.inl trivial)];have q1:∀ x ∈ put a.v,(x != 34)=true:=fun x q=>by simpa using (put_mem a.v x q).1
    rw[List.dropWhile_append_of_pos q1,List.takeWhile_append_of_pos q1,List.dropWhile_cons_of_neg (by decide),List.takeWhile_cons_of_neg (by decide),List.append_nil]
   have e7:Mg.isAt 61 (61 :: 34 :: (put a.v++(34 :: (written l++62 :: R))))=true:=by simp[Mg.isAt]
   rw[e5,e7,if_pos rfl,List.tail_cons,e6];simp only [Option.map_some,j2m];rw[if_pos (by rw[h1,h2];rfl)];rw[ih,List.append_assoc];rfl
theorem z8u:∀ l:List At,l.length≤(written l).length
 | []=>Nat.zero_le _
 | a :: l=>by
  have:=z8u l;rw[z2x];simp;omega
theorem q9f (l:List At) (R:Bs) (h:Q9 isName [] l=0):z3p (written l++62 :: R)=some (l,R):=by
 unfold z3p;have:=z8u l;rw[q3u l _ [] R h (by simp;omega),List.nil_append]
theorem q6w (l:List At) (R:Bs):∃ y r,written l++62 :: R=y :: r∧Y3 y=false:=by
 cases l with
 | nil=>exact⟨62,R,rfl,by decide⟩
 | cons a l=>rw[z2x];exact⟨32,_,rfl,by decide⟩
theorem j8z (n:Bs) (l:List At) (R:Bs) (hn:isName n=true) (hl:Q9 isName [] l=0):hereAt (60 :: (n++(written l++62 :: R)))=.tag ⟨2,n,l,[]⟩ R:=by
 obtain⟨c,t,hc,hs,hb⟩:=q05 hn;obtain⟨y,r,hy,hyt⟩:=q6w l R;have e0:q04 (60 :: (n++(written l++62 :: R))).tail=true:=by rw[hc];exact(q8q c hs).1
 unfold hereAt;rw[if_pos e0,List.tail_cons];unfold z5c;have p1:∀ x ∈ n,Y3 x=true:=fun x q=>(z5b x (hb x q)).1
 have e1:(n++(written l++62 :: R)).takeWhile Y3=n:=by
  rw[hy,List.takeWhile_append_of_pos p1,List.takeWhile_cons_of_neg (by simp[hyt]),List.append_nil]
 have e2:(n++(written l++62 :: R)).dropWhile Y3=written l++62 :: R:=by
  rw[List.dropWhile_append_of_pos p1,hy,List.dropWhile_cons_of_neg (by simp[hyt])]
 simp only [e1,e2,q9f l R hl,q2w hb,hn,if_true]
theorem j4q (n:Bs) (R:Bs) (hn:isName n=true):hereAt (60 :: 47 :: (n++62 :: R))=.tag ⟨3,n,[],[]⟩ R:=by
 obtain⟨c,t,hc,hs,hb⟩:=q05 hn;have e0:q04 (60 :: 47 :: (n++62 :: R)).tail=false:=by
  show Mg.isLet 47=false;decide
 have e9:(Mg.pre [60,47] (60 :: 47 :: (n++62 :: R)) && q04 ((60 :: 47 :: (n++62 :: R)).drop 2))=true:=by
  have:q04 (n++62 :: R)=true:=by rw[hc];exact(q8q c hs).1
  show (Mg.pre [60,47] (60 :: 47 :: (n++62 :: R)) && q04 (n++62 :: R))=true;rw[this];rfl
 unfold hereAt;rw[if_neg (by rw[e0];decide),if_pos e9];unfold z2g;have p1:∀ x ∈ n,Y3 x=true:=fun x q=>(z5b x (hb x q)).1
 have e1:(n++62 :: R).takeWhile Y3=n:=by
  rw[List.takeWhile_append_of_pos p1,List.takeWhile_cons_of_neg (by decide),List.append_nil]
 have e2:(n++62 :: R).dropWhile Y3=62 :: R:=by
  rw[List.dropWhile_append_of_pos p1,List.dropWhile_cons_of_neg (by decide)]
 have e3:behind [62] (62 :: R)=some R:=by unfold behind;simp[Mg.pre]
 have e4:(60 :: 47 :: (n++62 :: R)).drop 2=n++62 :: R:=rfl;simp only [e4,e1,e2,e3,q2w hb,hn,if_true]
theorem q4y:∀ (l:Bs) (n:Nat) (text:Bs) (out:List Tok) (R:Bs),(∀ x ∈ l,x ≠ 60)→l.length≤n→z0p n (l++R) text out=z0p (n - l.length) R (text++l) out
 | [],n,text,out,R,_,_=>by simp
 | c :: l,n,text,out,R,h,hn=>by
  cases n with
  | zero=>simp at hn
  | succ n =>
   show z0p (n + 1) (c :: (l++R)) text out=_;rw[z0p,if_neg (h c (by simp)),q4y l n (text++[c]) out R (fun x q=>h x (by simp[q])) (by simpa using hn)];simp
def Adj:Bool→List Tok→Prop
 | _,[]=>True
 | p,t :: r=>(t.kind=1→p=false)∧Adj (decide (t.kind=1)) r
theorem Adj.weak:∀ {l:List Tok},Adj true l→∀ p,Adj p l
 | [],_,_=>trivial
 | _ :: _,h,_=>⟨fun q=>(by cases h.1 q),h.2⟩
theorem j8s (t:Bs) (out:List Tok) (h:t ≠ []):flush (put t) out=out++[⟨1,[],[],t⟩]:=by
 unfold flush;simp only [j2m];rw[if_neg h]
theorem z99 (out:List Tok):flush [] out=out:=by
 have e:(take []).1=[]:=rfl;unfold flush;simp[e]
theorem q8g:∀ (L:List Tok) (p:Bool) (text:Bs) (out:List Tok) (n:Nat),(∀ t ∈ L,z3m t)→Adj p L→(p=false→text=[])→(bytes L).length≤n→z0p n (bytes L) text out=flush text out++L
 | [],p,text,out,n,_,_,_,_=>by
  have e:z0p n [] text out=flush text out:=by cases n <;> (unfold z0p;rfl)
  show z0p n [] text out=_;rw[e,List.append_nil]
 | t :: L,p,text,out,n,hL,ha,hp,hn=>by
  have hb:bytes (t :: L)=X6 t++bytes L:=rfl;have ih:=fun p' text' out' n' h1 h2 h3=>q8g L p' text' out' n' (fun x q=>hL x (by simp[q])) h1 h2 h3
  obtain⟨a1,a2⟩:=ha;rw[hb,List.length_append] at hn
  rcases hL t (by simp) with ⟨k,k1,k2,k3⟩ | ⟨k,k1,k2,k3⟩ | ⟨k,k1,k2,k3⟩
  ·have ht:t=⟨1,[],[],t.text⟩:=by cases t;simp_all
   have e1:X6 t=put t.text:=by unfold X6;rw[if_pos k]
   have htx:=hp (a1 k);subst htx;rw[e1] at hn;rw[hb,e1,q4y _ _ _ _ _ (fun x q=>(put_mem _ x q).2) (by omega),List.nil_append];rw[ih true (put t.text) out _ (by rw[show decide (t.kind=1)=true by simpa using k] at a2;exact a2) (fun q=>by cases q) (by omega),j8s _ _ k3,z99,List.append_assoc];rw[← ht];rfl
  ·have ht:t=⟨2,t.name,t.ats,[]⟩:=by cases t;simp_all
   have e1:X6 t=[60]++t.name++written t.ats++[62]:=by unfold X6;rw[if_neg (by rw[k];decide),if_pos k]
   have e2:X6 t++bytes L=60 :: (t.name++(written t.ats++62 :: bytes L)):=by rw[e1];simp
   have e3:(X6 t).length ≥ 1:=by rw[e1];simp
   cases n with
   | zero=>omega
   | succ n =>
    rw[hb,e2,z0p,if_pos rfl,j8z _ _ _ k1 k2];simp only;rw[← ht,ih false [] _ n (by rw[show decide (t.kind=1)=false by simp[k]] at a2;exact a2) (fun _=>rfl) (by omega),z99,List.append_assoc];rfl
  ·have ht:t=⟨3,t.name,[],[]⟩:=by cases t;simp_all
   have e1:X6 t=[60,47]++t.name++[62]:=by unfold X6;rw[if_neg (by rw[k];decide),if_neg (by rw[k];decide),if_pos k]
   have e2:X6 t++bytes L=60 :: 47 :: (t.name++62 :: bytes L):=by rw[e1];simp
   have e3:(X6 t).length ≥ 1:=by rw[e1];simp
   cases n with
   | zero=>omega
   | succ n =>
    rw[hb,e2,z0p,if_pos rfl,j4q _ _ k1];simp only;rw[← ht,ih false [] _ n (by rw[show decide (t.kind=1)=false by simp[k]] at a2;exact a2) (fun _=>rfl) (by omega),z99,List.append_assoc];rfl
theorem j6h (L:List Tok) (h:∀ t ∈ L,z3m t) (ha:Adj false L):toks (bytes L)=L:=by
 unfold toks;rw[q8g L false [] [] _ h ha (fun _=>rfl) (Nat.le_refl _),z99,List.nil_append]
theorem j8r:∀ (f:Fo) (names:List Bs) (prev:Bool),Q8 f names prev=0→(∀ t ∈ flat f,z3m t)∧∀ m,Adj true m→Adj prev (flat f++m):=by
 intro f
 induction f with
 | nil=>intro _ prev _;exact⟨fun _ q=>(by cases q),fun m h=>h.weak prev⟩
 | node n a t k r ihk ihr =>
  intro names prev h;obtain⟨g1,g2,g3,g4⟩:=(V5 ..).1 h;obtain⟨r1,r2⟩:=ihr names _ g4
  by_cases hn:n=[]
  ·subst hn
   obtain⟨q1,q2,q3⟩:=(z1q ..).1 g1;have e:flat (.node [] a t k r)=⟨1,[],[],t⟩ :: flat r:=by rw[flat,if_pos rfl]
   rw[e];refine⟨fun x q=>?_,fun m hm=>?_⟩
   ·rcases List.mem_cons.1 q with q | q
    ·rw[q];exact .inl ⟨rfl,rfl,rfl,q1⟩
    ·exact r1 x q
   ·exact⟨fun _=>by cases prev with | false=>rfl | true=>exact absurd ⟨rfl,rfl⟩ g2,r2 m hm⟩
  ·obtain⟨e1,e2,e3,e4,e5⟩:=(z7o _ _ hn _ _ _).1 g1
   obtain⟨k1,k2⟩:=ihk _ false g3;have e:flat (.node n a t k r)=⟨2,n,a,[]⟩ :: ((if z09 n=true then [] else flat k++[⟨3,n,[],[]⟩])++flat r):=by rw[flat,if_neg hn]
   rw[show decide (n=[])=false by simp[hn]] at r2;rw[e];refine⟨fun x q=>?_,fun m hm=>?_⟩
   ·rcases List.mem_cons.1 q with q | q
    ·rw[q];exact .inr (.inl ⟨rfl,e2,e4,rfl⟩)
    ·rcases List.mem_append.1 q with q | q
     ·split at q
      ·cases q
      ·rcases List.mem_append.1 q with q | q
       ·exact k1 x q
       ·rw[List.mem_singleton.1 q];exact .inr (.inr ⟨rfl,e2,rfl,rfl⟩)
     ·exact r1 x q
   ·refine⟨fun q=>(by cases q),?_⟩
    show Adj false (((if z09 n=true then [] else flat k++[⟨3,n,[],[]⟩])++flat r)++m)
    split
    ·exact r2 m hm
    ·rw[List.append_assoc,List.append_assoc]
     exact k2 _ ⟨fun q=>(by cases q),r2 m hm⟩
theorem q8f (f:Fo) (hc:Q8 f [] false=0):toks (bytes (flat f))=flat f:=by
 obtain⟨h1,h2⟩:=j8r f [] false hc;have:=h2 [] trivial;rw[List.append_nil] at this;exact j6h _ h1 this
end Mk
namespace Mk
open Fo
structure Ln where
 ti:Bs
 li:Bs
 dt:Bs
 wo:Bs
def lineB (x:Ln):Bs:=[60,108,105,62]++((if x.li=[] then put x.ti else [60,97,32,104,114,101,102,61,34]++put x.li++[34,62]++put x.ti++[60,47,97,62])++(x.dt++([60,112,62]++put x.wo++[60,47,112,62]++[60,47,108,105,62])))
def j5f (l:List Ln):Bs:=[60,117,108,62]++l.flatMap lineB++[60,47,117,108,62]
def textF (s:Bs) (r:Fo):Fo:=if s=[] then r else node [] [] s nil r
def z8g (w:Bs):Fo:=node [112] [] [] (textF w nil) nil
def q2r (x:Ln):Fo:=if x.li=[] then textF (x.ti++x.dt) (z8g x.wo) else node [97] [⟨[104,114,101,102],x.li⟩] [] (textF x.ti nil) (textF x.dt (z8g x.wo))
def z7a:List Ln→Fo
 | []=>nil
 | x :: l=>node [108,105] [] [] (q2r x) (z7a l)
def q3m (l:List Ln):Fo:=node [117,108] [] [] (z7a l) nil
theorem q4n (a b:Bs):put (a++b)=put a++put b:=by unfold put;rw[List.flatMap_append]
theorem bytes_append (a b:List Tok):bytes (a++b)=bytes a++bytes b:=by unfold bytes;rw[List.flatMap_append]
theorem z9u (a:Tok) (b:List Tok):bytes (a :: b)=X6 a++bytes b:=rfl
theorem z5q (s:Bs) (r:Fo):bytes (flat (textF s r))=put s++bytes (flat r):=by
 unfold textF
 split
 ·rename_i h;rw[h];rfl
 ·rw[flat,if_pos rfl,z9u];rfl
theorem q1g (n:Bs) (a:List At) (k r:Fo) (hn:n ≠ []) (he:z09 n=false):bytes (flat (node n a [] k r))=[60]++n++written a++[62]++bytes (flat k)++([60,47]++n++[62])++bytes (flat r):=by
 have e2:X6 ⟨2,n,a,[]⟩=[60]++n++written a++[62]:=rfl;have e3:X6 ⟨3,n,[],[]⟩=[60,47]++n++[62]:=rfl;have e4:bytes [⟨3,n,[],[]⟩]=[60,47]++n++[62]:=by rw[z9u,e3];simp[bytes]
 rw[flat,if_neg hn,he,z9u,e2,bytes_append];simp only [Bool.false_eq_true,if_false];rw[bytes_append,e4];simp only [List.append_assoc]
theorem q26 (w:Bs):bytes (flat (z8g w))=[60,112,62]++put w++[60,47,112,62]:=by
 unfold z8g;rw[q1g _ _ _ _ (by decide) (by decide),z5q];simp[written,flat,bytes]
theorem j3v (x:Ln) (hd:put x.dt=x.dt):bytes (flat (q2r x))=(if x.li=[] then put x.ti else [60,97,32,104,114,101,102,61,34]++put x.li++[34,62]++put x.ti++[60,47,97,62])++(x.dt++([60,112,62]++put x.wo++[60,47,112,62])):=by
 unfold q2r
 split
 ·rw[z5q,q26,q4n,hd,List.append_assoc]
 ·rw[q1g _ _ _ _ (by decide) (by decide),z5q,z5q,q26,hd]
  simp[written,flat,bytes]
theorem q25:∀ (l:List Ln),(∀ x ∈ l,put x.dt=x.dt)→bytes (flat (z7a l))=l.flatMap lineB
 | [],_=>rfl
 | x :: l,h=>by
  have ih:=q25 l (fun y hy=>h y (List.mem_cons_of_mem _ hy));unfold z7a;rw[q1g _ _ _ _ (by decide) (by decide),j3v x (h x (List.mem_cons_self ..)),ih,List.flatMap_cons];unfold lineB;simp[written]
theorem j3w (l:List Ln) (h:∀ x ∈ l,put x.dt=x.dt):bytes (flat (q3m l))=j5f l:=by
 unfold q3m j5f;rw[q1g _ _ _ _ (by decide) (by decide),q25 l h];simp[written,flat,bytes]
theorem z5s (s:Bs) (r:Fo) (names:List Bs) (h:Q8 r names true=0) (h2:Q8 r names false=0):Q8 (textF s r) names false=0:=by
 unfold textF
 split
 ·exact h2
 ·rename_i hs
  rw[Q8];have e:z0t names [] [] s nil=0:=by unfold z0t;rw[if_pos rfl,if_neg];rintro (q | q | q);exact hs q;exact q rfl;exact q rfl
  rw[e];simp[Q8,h]
theorem z5t (w:Bs) (p:Bool):Q8 (z8g w) [[117,108],[108,105]] p=0:=by
 unfold z8g;rw[Q8];have e:z0t [[117,108],[108,105]] [112] [] [] (textF w nil)=0:=rfl;have e2:Q8 (textF w nil) ([[117,108],[108,105]]++[[112]]) false=0:=z5s w nil _ rfl rfl;rw[e,e2];simp[Q8]
theorem j3y (x:Ln):Q8 (q2r x) [[117,108],[108,105]] false=0:=by
 unfold q2r
 split
 ·exact z5s _ _ _ (z5t _ _) (z5t _ _)
 ·rw[Q8]
  have e:z0t [[117,108],[108,105]] [97] [⟨[104,114,101,102],x.li⟩] [] (textF x.ti nil)=0:=rfl;have e2:Q8 (textF x.ti nil) ([[117,108],[108,105]]++[[97]]) false=0:=z5s _ nil _ rfl rfl;have e3:Q8 (textF x.dt (z8g x.wo)) [[117,108],[108,105]] false=0:=z5s _ _ _ (z5t _ _) (z5t _ _);rw[e,e2];simp[e3]
theorem q27:∀ (l:List Ln) (p:Bool),Q8 (z7a l) [[117,108]] p=0
 | [],_=>rfl
 | x :: l,p=>by
  have ih:=q27 l false;unfold z7a;rw[Q8];have e:z0t [[117,108]] [108,105] [] [] (q2r x)=0:=rfl;have e2:Q8 (q2r x) ([[117,108]]++[[108,105]]) false=0:=j3y x;rw[e,e2];simp[ih]
theorem j3z (l:List Ln):Q8 (q3m l) [] false=0:=by
 unfold q3m;rw[Q8];have e:z0t [] [117,108] [] [] (z7a l)=0:=rfl;have e2:Q8 (z7a l) ([]++[[117,108]]) false=0:=q27 l false;rw[e,e2];simp[Q8]
theorem z5v (s:Bs) (r:Fo):(textF s r).depth=r.depth:=by
 unfold textF
 split
 ·rfl
 ·rfl
theorem j4f (x:Ln):(q2r x).depth≤1:=by
 have hw:(z8g x.wo).depth≤1:=by
  unfold z8g;rw[depth,if_neg (by decide),z5v];decide
 unfold q2r
 split
 ·rw[z5v];exact hw
 ·rw[depth,if_neg (by decide),z5v,z5v]
  have e:Fo.depth nil=0:=rfl;rw[e];omega
theorem q2e:∀ l:List Ln,(z7a l).depth≤2
 | []=>by decide
 | x :: l=>by
  have ih:=q2e l;have hk:=j4f x;unfold z7a;rw[depth,if_neg (by decide)];omega
theorem j4g (l:List Ln):(q3m l).depth≤8:=by
 have h:=q2e l;unfold q3m;rw[depth,if_neg (by decide)];have e:Fo.depth nil=0:=rfl;rw[e];omega
theorem z4i (s:Bs) (r:Fo) (h:Stable [] r):Stable [] (textF s r):=by
 unfold textF
 split
 ·exact h
 ·exact⟨fun q=>absurd rfl q,trivial,h⟩
theorem q0u (w:Bs):Stable [] (z8g w):=⟨fun _=>⟨rfl,rfl,rfl,rfl,fun q=>by cases q.1⟩,z4i _ _ trivial,trivial⟩
theorem j0s (x:Ln) (h:x.li=[]∨V3 x.li=true):Stable [] (q2r x):=by
 unfold q2r
 split
 ·exact z4i _ _ (q0u _)
 ·rename_i hl
  have hg:V3 x.li=true:=h.elim (fun q=>absurd q hl) id;refine⟨fun _=>⟨rfl,rfl,rfl,?_,fun q=>by cases q.1⟩,z4i _ _ trivial,z4i _ _ (q0u _)⟩;unfold Z5;simp only [List.flatMap_cons,List.flatMap_nil,List.append_nil];unfold V9;have e1:¬(!mayB [97] [104,114,101,102])=true:=by decide
  have e2:z6b [104,114,101,102]=true:=by decide
  rw[if_neg e1,if_pos e2,q7w,if_pos hg]
theorem q0t:∀ l:List Ln,(∀ x ∈ l,x.li=[]∨V3 x.li=true)→Stable [] (z7a l)
 | [],_=>trivial
 | x :: l,h=>⟨fun _=>⟨rfl,rfl,rfl,rfl,fun q=>by cases q.1⟩,j0s x (h x (List.mem_cons_self ..)),q0t l (fun y hy=>h y (List.mem_cons_of_mem _ hy))⟩
theorem j9a (l:List Ln) (hd:∀ x ∈ l,put x.dt=x.dt) (hl:∀ x ∈ l,x.li=[]∨V3 x.li=true):html [] (j5f l)=j5f l:=by
 have hc:=j3z l;have hst:Stable [] (q3m l):=⟨fun _=>⟨rfl,rfl,rfl,rfl,fun q=>by cases q.1⟩,q0t l hl,trivial⟩;have hcl:clean [] (q3m l)=q3m l:=by
  unfold clean;exact q38 [] (q3m l) [] nil hst (z2f _ _ _ hc) hc
 unfold html;rw[← j3w l hd,q8f _ hc,Bld.q3x _ hc (j4g l),hcl]
end Mk
namespace Fd
abbrev Bs:=List UInt8
def lpB (y:Int):Bool:=decide (y % 4=0∧¬ y % 100=0∨y % 400=0)
def lp (y:Int):Int:=if lpB y then 1 else 0
theorem lp_01 (y:Int):0≤lp y∧lp y≤1:=by unfold lp;split <;> omega
def ahead (y:Int):Int:=if y=0 then 0 else 365 * (y - 1 + 1) + (y - 1) / 4 - (y - 1) / 100 + (y - 1) / 400 + 1
def long (y m:Int):Int:=if m=2 then 28 + lp y else if m=4∨m=6∨m=9∨m=11 then 30 else 31
def rest (y m:Int):Int :=
 if m=1 then 365 + lp y else if m=2 then 334 + lp y else if m=3 then 306 else if m=4 then 275 else if m=5 then 245 else if m=6 then 214 else if m=7 then 184
 else if m=8 then 153 else if m=9 then 122 else if m=10 then 92 else if m=11 then 61 else if m=12 then 31 else 0
theorem j9h (y m:Int):28≤long y m∧long y m≤31:=by
 have:=lp_01 y;unfold long
 split
 ·omega
 split <;> omega
def yrs:Nat→Int→Int→Int × Int
 | 0,y,d=>(y,d)
 | n + 1,y,d=>if 365 + lp y≤d then yrs n (y + 1) (d - (365 + lp y)) else (y,d)
def mths:Nat→Int→Int→Int→Int × Int
 | 0,_,m,d=>(m,d)
 | n + 1,y,m,d=>if long y m≤d then mths n y (m + 1) (d - long y m) else (m,d)
def digs:Nat→Nat→Bs
 | 0,_=>[]
 | k + 1,n=>digs k (n / 10)++[UInt8.ofNat (48 + n % 10)]
def y10 (at_:Int):Int:=(yrs 200 1970 (at_ / 86400)).1
def dayOf (at_:Int):Int:=(yrs 200 1970 (at_ / 86400)).2
def monOf (at_:Int):Int:=(mths 12 (y10 at_) 1 (dayOf at_)).1
def mdayOf (at_:Int):Int:=(mths 12 (y10 at_) 1 (dayOf at_)).2
def j4e (at_:Int):Bs :=
 digs 4 (y10 at_).toNat++[45]++digs 2 (monOf at_).toNat++[45]++digs 2 (mdayOf at_ + 1).toNat++[84]++digs 2 (at_ % 86400 / 3600).toNat++[58]++digs 2 (at_ % 86400 / 60 % 60).toNat++[58]++digs 2 (at_ % 86400 % 60).toNat++[90]
def j2b (c:UInt8):Bool:=c != 38 && c != 60 && c != 62 && c != 34
theorem q8b:∀ s:Bs,s.all j2b=true→Mk.put s=s
 | [],_=>rfl
 | c :: t,h=>by
  rw[List.all_cons,Bool.and_eq_true] at h;have h2:=q8b t h.2;have h1:=h.1;unfold j2b at h1;simp only [Bool.and_eq_true,bne_iff_ne,ne_eq] at h1;have e:Mk.esc c=[c]:=by
   unfold Mk.esc;rw[if_neg h1.1.1.1,if_neg h1.1.1.2,if_neg h1.1.2,if_neg h1.2]
  show Mk.esc c++Mk.put t=_;rw[e,h2];rfl
theorem q47:∀ (k n:Nat),(digs k n).all j2b=true
 | 0,_=>rfl
 | k + 1,n=>by
  rw[digs,List.all_append,q47 k];have h:n % 10 < 10:=Nat.mod_lt _ (by decide);have hd:∀ m:Fin 10,([UInt8.ofNat (48 + m.val)].all j2b)=true:=by decide
  exact hd ⟨n % 10,h⟩
theorem put_date (at_:Int):Mk.put (j4e at_)=j4e at_:=by
 refine q8b _ ?_;unfold j4e;simp only [List.all_append,q47,Bool.true_and,Bool.and_true];decide
inductive Rs (α:Type) where
 | ok:α→Bs→Rs α
 | er:Int→Rs α
def z2v (c:UInt8):Bool:=c == 9 || c == 10 || c == 13 || c == 32
def X4 (s:Bs):Bs:=s.dropWhile z2v
def z1y (first:Bool) (c:UInt8):Bool:=(97≤c && c≤122) || (65≤c && c≤90) || c == 95 || (!first && ((48≤c && c≤57) || c == 45 || c == 46 || c == 58))
def z3i:Bool→Bs→Bool
 | _,[]=>true
 | f,c :: t=>z1y f c && z3i false t
def z03 (s:Bs):Bool:=z3i true s && decide (s ≠ []) && decide (s.length≤20)
def z6j:Bool→Bs→Bs
 | _,[]=>[]
 | f,c :: t=>if z1y f c then c :: z6j false t else []
def V8 (s:Bs):Rs Bs:=if z03 (z6j true s) then .ok (z6j true s) (s.drop (z6j true s).length) else .er 1
def z0b (p s:Bs):Rs Unit:=if Mg.pre p s then .ok () (s.drop p.length) else .er 1
def z05 (p:Bs):Bs→Option (Bs × Bs)
 | []=>none
 | c :: t=>if Mg.pre p (c :: t) then some ([],(c :: t).drop p.length) else (z05 p t).map fun x=>(c :: x.1,x.2)
def toX (p s:Bs):Rs Bs:=match z05 p s with | none=>.er 1 | some x=>.ok x.1 x.2
def z16 (s:Bs):Option (Rs Unit) :=
 if Mg.pre [60,33,45,45] s then some (match z05 [45,45,62] (s.drop 4) with | none=>.er 1 | some x=>.ok () x.2)
 else if Mg.pre [60,63] s then some (match z05 [63,62] (s.drop 2) with | none=>.er 1 | some x=>.ok () x.2)
 else none
def z6r:Nat→Bs→Rs Unit
 | 0,s=>.ok () s
 | n + 1,s =>
  if (X4 s).length < s.length then z6r n (X4 s)
  else match z16 s with
   | none=>.ok () s
   | some (.er e)=>.er e
   | some (.ok _ r)=>z6r n r
def z3u (s:Bs):Rs Unit:=z6r (s.length + 1) s
def z3h (s:Bs):Rs Bs :=
 let q:UInt8:=if Mg.pre [39] s then 39 else 34
 match z0b [q] s with
 | .er e=>.er e
 | .ok _ r =>
  match toX [q] r with
  | .er e=>.er e
  | .ok v u=>if v.contains 60 then .er 1 else if (Mk.take v).2 then .ok (Mk.take v).1 u else .er 1
def z4l (s:Bs):Rs Mk.At :=
 match V8 s with
 | .er e=>.er e
 | .ok nm r =>
  match z0b [61] (X4 r) with
  | .er e=>.er e
  | .ok _ u =>
   match z3h (X4 u) with
   | .er e=>.er e
   | .ok v z=>.ok ⟨nm,v⟩ z
def z06:Nat→Bs→List Mk.At→Rs (List Mk.At)
 | 0,s,out=>.ok out s
 | n + 1,s,out =>
  if (X4 s).length < s.length then
   match X4 s with
   | []=>.ok out []
   | c :: t =>
    if z1y true c then
     match z4l (c :: t) with
     | .er e=>.er e
     | .ok a r=>if Mk.Q9 z03 [] (out++[a]) ≠ 0 then .er 6 else z06 n r (out++[a])
    else .ok out (c :: t)
  else .ok out s
def z2a (s:Bs):Rs (List Mk.At):=z06 (s.length + 1) s []
def q0f (f:Mk.Fo) (t:Bs):Mk.Fo:=if t=[] then f else Mk.Fo.snoc [] [] t .nil f
structure El where
 name:Bs
 ats:List Mk.At
 kids:Mk.Fo
mutual
def z4a:Nat→Int→Bs→Rs El
 | 0,_,_=>.er 1
 | n + 1,deep,s =>
  match z0b [60] s with
  | .er e=>.er e
  | .ok _ r =>
   match V8 r with
   | .er e=>.er e
   | .ok nm u =>
    if 8 < deep then .er 2
    else match z2a u with
     | .er e=>.er e
     | .ok l z =>
      if Mg.pre [47,62] z then .ok ⟨nm,l,.nil⟩ (z.drop 2)
      else match z0b [62] z with
       | .er e=>.er e
       | .ok _ y =>
        match z1h n deep y .nil with
        | .er e=>.er e
        | .ok k x =>
         match V8 x with
         | .er e=>.er e
         | .ok nm2 v=>if nm2 ≠ nm then .er 4 else
          match z0b [62] (X4 v) with
          | .er e=>.er e
          | .ok _ o=>.ok ⟨nm,l,k⟩ o
def z1h:Nat→Int→Bs→Mk.Fo→Rs Mk.Fo
 | 0,_,_,_=>.er 1
 | n + 1,deep,s,out =>
  if Mg.pre [60,47] s then .ok out (s.drop 2)
  else if Mg.pre [60,33,91,67,68,65,84,65,91] s then
   match toX [93,93,62] (s.drop 9) with
   | .er e=>.er e
   | .ok t r=>z1h n deep r (q0f out t)
  else match z16 s with
   | some (.er e)=>.er e
   | some (.ok _ r)=>z1h n deep r out
   | none =>
    if Mg.pre [60] s then
     match z4a n (deep + 1) s with
     | .er e=>.er e
     | .ok x r=>z1h n deep r (out.app (.node x.name x.ats [] x.kids .nil))
    else match z05 [60] s with
     | none=>.er 1
     | some (t,_)=>if (Mk.take t).2 then z1h n deep (s.drop t.length) (q0f out (Mk.take t).1) else .er 1
end
def xmlR (s:Bs):El × Int :=
 match z3u s with
 | .er e=>(⟨[],[],.nil⟩,e)
 | .ok _ r =>
  match z4a (r.length + 1) 1 r with
  | .er e=>(⟨[],[],.nil⟩,e)
  | .ok x u =>
   match z3u u with
   | .er e=>(⟨[],[],.nil⟩,e)
   | .ok _ v=>if v=[] then (x,0) else (⟨[],[],.nil⟩,1)
def xmlB:Mk.Fo→Bs
 | .nil=>[]
 | .node n a t k r=>(if n=[] then Mk.put t else [60]++n++Mk.written a++(if k=.nil then [47,62] else [62]++xmlB k++[60,47]++n++[62]))++xmlB r
example:(xmlR [60,97,62,120,60,98,47,62,60,47,97,62]).2=0:=by decide +kernel
example:xmlB (.node [97] [] [] (.node [] [] [120] .nil (.node [98] [] [] .nil .nil)) .nil)=[60,97,62,120,60,98,47,62,60,47,97,62]:=by decide +kernel
structure En where
 id:Bs
 ti:Bs
 li:Bs
 at_:Int
 ht:Bs
 deriving DecidableEq
def z5g (s:Bs):Bool:=decide (s.length≤3000) && (Mk.z2t (Mk.build (Mk.toks s)) && (Mk.bytes (Mk.flat (Mk.build (Mk.toks s))) == s))
def z0r (x:En):Int :=
 if x.id=[] then 1
 else if 60 < x.id.length∨3000 < x.ti.length∨3000 < x.li.length∨3000 < x.ht.length then 2
 else if x.at_ < 0∨4102444799 < x.at_ then 3
 else if (x.li ≠ []∧Mg.isSafe x.li=false)∨z5g x.ht=false then 4 else 0
def cmpB:Bs→Bs→Int
 | [],[]=>0
 | [],_ :: _=>-1
 | _ :: _,[]=>1
 | a :: s,b :: t=>if a=b then cmpB s t else if a < b then -1 else 1
theorem q2c:∀ a b:Bs,cmpB b a = - cmpB a b
 | [],[]=>rfl
 | [],b :: t=>rfl
 | a :: s,[]=>rfl
 | a :: s,b :: t=>by
  rw[cmpB,cmpB]
  by_cases h:a=b
  ·rw[if_pos h,if_pos h.symm,q2c s t]
  ·rw[if_neg h,if_neg (fun e=>h e.symm)]
   by_cases h2:a < b
   ·rw[if_pos h2,if_neg (fun q=>by have:=UInt8.lt_asymm h2;exact this q)]
    rfl
   ·have h3:b < a:=by
     rcases UInt8.lt_or_lt_of_ne h with q | q
     ·exact absurd q h2
     ·exact q
    rw[if_neg h2,if_pos h3]
theorem z9v:∀ a b c:Bs,cmpB a b < 0→cmpB b c < 0→cmpB a c < 0
 | [],[],c,h,_=>by simp[cmpB] at h
 | [],b :: t,[],_,h=>by simp[cmpB] at h
 | [],b :: t,c :: u,_,_=>by simp[cmpB]
 | a :: s,[],c,h,_=>by simp[cmpB] at h
 | a :: s,b :: t,[],_,h=>by simp[cmpB] at h
 | a :: s,b :: t,c :: u,h1,h2=>by
  rw[cmpB] at h1 h2 ⊢
  by_cases e1:a=b
  ·subst e1
   rw[if_pos rfl] at h1
   by_cases e2:a=c
   ·subst e2
    rw[if_pos rfl] at h2 ⊢;exact z9v s t u h1 h2
   ·rw[if_neg e2] at h2 ⊢
    exact h2
  ·rw[if_neg e1] at h1
   have l1:a < b:=by
    by_cases q:a < b
    ·exact q
    ·rw[if_neg q] at h1;omega
   by_cases e2:b=c
   ·subst e2
    rw[if_neg e1,if_pos l1];omega
   ·rw[if_neg e2] at h2
    have l2:b < c:=by
     by_cases q:b < c
     ·exact q
     ·rw[if_neg q] at h2;omega
    have l3:a < c:=UInt8.lt_trans l1 l2;rw[if_neg (fun e=>by rw[e] at l3;exact UInt8.lt_irrefl _ l3),if_pos l3];omega
def ordE (a b:En):Int:=if a.at_=b.at_ then cmpB a.id b.id else b.at_ - a.at_
theorem j5e (a b c:En) (h1:ordE a b < 0) (h2:ordE b c < 0):ordE a c < 0:=by
 unfold ordE at *
 by_cases e1:a.at_=b.at_
 ·rw[if_pos e1] at h1
  by_cases e2:b.at_=c.at_
  ·rw[if_pos e2] at h2
   rw[if_pos (e1.trans e2)];exact z9v _ _ _ h1 h2
  ·rw[if_neg e2] at h2
   rw[if_neg (fun e=>e2 (e1.symm.trans e))];omega
 ·rw[if_neg e1] at h1
  by_cases e2:b.at_=c.at_
  ·rw[if_pos e2] at h2
   rw[if_neg (fun e=>e1 (e.trans e2.symm))];omega
  ·rw[if_neg e2] at h2
   rw[if_neg (by omega)];omega
def z4n:List En→List En→Int
 | _,[]=>0
 | seen,x :: r =>
  if z0r x ≠ 0 then z0r x
  else if (seen.any fun y=>y.id == x.id)=true then 6
  else match seen.getLast? with
   | none=>z4n (seen++[x]) r
   | some y=>if 0≤ordE y x then 4 else z4n (seen++[x]) r
def z4o:Option Bs→List Bs→Int
 | _,[]=>0
 | p,s :: r=>if s=[] then 1 else if 60 < s.length then 2 else match p with
  | none=>z4o (some s) r
  | some q=>if cmpB s q≤0 then 4 else z4o (some s) r
theorem q0j (p:Option Bs) (s:Bs) (r:List Bs):z4o p (s :: r)=if s=[] then 1 else if 60 < s.length then 2 else match p with
  | none=>z4o (some s) r
  | some q=>if cmpB s q≤0 then 4 else z4o (some s) r:=by cases p <;> rfl
structure Sh where
 es:List En
 rd:List Bs
 deriving DecidableEq
def q9n (s:Sh):Int:=if 20 < s.es.length∨40 < s.rd.length then 2 else if z4n [] s.es ≠ 0 then z4n [] s.es else z4o none s.rd
def z4u (l:List En):Prop:=(∀ x ∈ l,z0r x=0)∧l.Pairwise (fun a b=>a.id ≠ b.id)∧l.Pairwise (fun a b=>ordE a b < 0)
def q1p (l:List Bs):Prop:=(∀ s ∈ l,s ≠ []∧s.length≤60)∧l.Pairwise (fun a b=>cmpB a b < 0)
def j6y (s:Sh):Prop:=s.es.length≤20∧s.rd.length≤40∧z4u s.es∧q1p s.rd
theorem z4u.nil:z4u []:=⟨fun _ h=>(by cases h),List.Pairwise.nil,List.Pairwise.nil⟩
theorem y02 {α:Type _} {R:α→α→Prop} (l:List α) (x:α) (h:l.Pairwise R) (hx:∀ y ∈ l,R y x):(l++[x]).Pairwise R:=by
 rw[List.pairwise_append];exact⟨h,List.pairwise_singleton _ _,fun a ha b hb=>by rw[List.mem_singleton.1 hb];exact hx a ha⟩
theorem last_all (l:List En) (x y:En) (h:l.Pairwise (fun a b=>ordE a b < 0)) (hy:l.getLast? = some y) (hyx:ordE y x < 0):∀ z ∈ l,ordE z x < 0:=by
 intro z hz;have hne:l ≠ []:=by rintro rfl;cases hz
 rw[List.getLast?_eq_some_getLast hne] at hy;injection hy with hy;have e:l=l.dropLast++[y]:=by rw[← hy];exact(List.dropLast_concat_getLast hne).symm
 rw[e] at h hz
 rcases List.mem_append.1 hz with q | q
 ·have:=(List.pairwise_append.1 h).2.2 z q y (List.mem_singleton.2 rfl)
  exact j5e _ _ _ this hyx
 ·rw[List.mem_singleton.1 q];exact hyx
theorem z8z:∀ (l seen:List En),z4u seen→z4n seen l=0→z4u (seen++l)
 | [],seen,h,_=>by rw[List.append_nil];exact h
 | x :: r,seen,h,hc=>by
  rw[z4n] at hc
  by_cases h1:z0r x ≠ 0
  ·rw[if_pos h1] at hc;exact absurd hc h1
  rw[if_neg h1] at hc;have h1:z0r x=0:=by omega
  by_cases h2:(seen.any fun y=>y.id == x.id)=true
  ·rw[if_pos h2] at hc;cases hc
  rw[if_neg h2] at hc;have hid:∀ y ∈ seen,y.id ≠ x.id:=fun y hy e=>h2 (by rw[List.any_eq_true];exact⟨y,hy,by rw[e];exact beq_self_eq_true _⟩)
  have step:(∀ y ∈ seen,ordE y x < 0)→z4n (seen++[x]) r=0→z4u (seen++x :: r):=fun ho hcc=>by
   have hr:z4u (seen++[x]):=⟨fun y hy=>by
    rcases List.mem_append.1 hy with q | q
    ·exact h.1 y q
    ·rw[List.mem_singleton.1 q];exact h1,y02 _ _ h.2.1 hid,y02 _ _ h.2.2 ho⟩
   have:=z8z r (seen++[x]) hr hcc;rw[List.append_assoc] at this;exact this
  cases hl:seen.getLast? with
  | none =>
   rw[hl] at hc;have hs:seen=[]:=List.getLast?_eq_none_iff.1 hl;exact step (fun y hy=>by rw[hs] at hy;cases hy) hc
  | some y =>
   rw[hl] at hc;simp only at hc
   by_cases h3:0≤ordE y x
   ·rw[if_pos h3] at hc;cases hc
   rw[if_neg h3] at hc;exact step (last_all seen x y h.2.2 hl (by omega)) hc
theorem z6e:∀ (l seen:List En),z4u (seen++l)→z4n seen l=0
 | [],seen,_=>rfl
 | x :: r,seen,h=>by
  have hx:x ∈ seen++x :: r:=List.mem_append.2 (.inr (List.mem_cons_self ..));have hid:=(List.pairwise_append.1 h.2.1).2.2;have ho:=(List.pairwise_append.1 h.2.2).2.2;have hr:z4u ((seen++[x])++r):=by rw[List.append_assoc];exact h
  rw[z4n,if_neg (by rw[h.1 x hx];simp),if_neg]
  ·cases hl:seen.getLast? with
   | none=>exact z6e r _ hr
   | some y =>
    simp only;have hy:y ∈ seen:=List.mem_of_getLast? hl;have:=ho y hy x (List.mem_cons_self ..);rw[if_neg (by omega)];exact z6e r _ hr
  ·intro q
   rw[List.any_eq_true] at q;obtain⟨y,hy,e⟩:=q;exact hid y hy x (List.mem_cons_self ..) (beq_iff_eq.1 e)
theorem z5r:∀ (l:List Bs) (p:Option Bs),z4o p l=0→q1p l∧∀ q,p=some q→∀ s ∈ l,cmpB q s < 0
 | [],p,_=>⟨⟨fun _ h=>(by cases h),List.Pairwise.nil⟩,fun _ _ _ h=>(by cases h)⟩
 | s :: r,p,h=>by
  rw[q0j] at h
  by_cases h1:s=[]
  ·rw[if_pos h1] at h;cases h
  rw[if_neg h1] at h
  by_cases h2:60 < s.length
  ·rw[if_pos h2] at h;cases h
  rw[if_neg h2] at h;have key:z4o (some s) r=0→q1p (s :: r):=fun hh=>by
   obtain⟨a,b⟩:=z5r r (some s) hh;exact⟨fun x hx=>by
    rcases List.mem_cons.1 hx with q | q
    ·rw[q];exact⟨h1,by omega⟩
    ·exact a.1 x q,List.pairwise_cons.2 ⟨fun x hx=>b s rfl x hx,a.2⟩⟩
  cases p with
  | none=>exact⟨key h,fun q e=>by cases e⟩
  | some q =>
   simp only at h
   by_cases h3:cmpB s q≤0
   ·rw[if_pos h3] at h;cases h
   rw[if_neg h3] at h;have hqs:cmpB q s < 0:=by have:=q2c q s;omega
   refine⟨key h,fun q' e x hx=>?_⟩;injection e with e;subst e
   rcases List.mem_cons.1 hx with q2 | q2
   ·rw[q2];exact hqs
   ·exact z9v _ _ _ hqs ((z5r r (some s) h).2 s rfl x q2)
theorem z9h:∀ (l:List Bs) (p:Option Bs),q1p l→(∀ q,p=some q→∀ s ∈ l,cmpB q s < 0)→z4o p l=0
 | [],p,_,_=>rfl
 | s :: r,p,h,hp=>by
  obtain⟨h1,h2⟩:=h.1 s (List.mem_cons_self ..);obtain⟨h3,h4⟩:=List.pairwise_cons.1 h.2;have hr:z4o (some s) r=0:=z9h r (some s) ⟨fun x hx=>h.1 x (List.mem_cons_of_mem _ hx),h4⟩ (fun q e x hx=>by injection e with e;subst e;exact h3 x hx);rw[q0j,if_neg h1,if_neg (by omega)]
  cases p with
  | none=>exact hr
  | some q =>
   simp only;have:=hp q rfl s (List.mem_cons_self ..);have h5:=q2c q s;rw[if_neg (by omega)];exact hr
theorem q9o (s:Sh):q9n s=0↔j6y s:=by
 unfold q9n j6y;constructor
 ·intro h
  by_cases h1:20 < s.es.length∨40 < s.rd.length
  ·rw[if_pos h1] at h;cases h
  rw[if_neg h1] at h
  by_cases h2:z4n [] s.es ≠ 0
  ·rw[if_pos h2] at h;exact absurd h h2
  rw[if_neg h2] at h;have:=z8z s.es [] z4u.nil (by omega);rw[List.nil_append] at this;exact⟨by omega,by omega,this,(z5r s.rd none h).1⟩
 ·rintro ⟨h1,h2,h3,h4⟩
  have e:=z6e s.es [] (by rw[List.nil_append];exact h3);rw[if_neg (by omega),e,if_neg (by simp)];exact z9h s.rd none h4 (fun q e=>by cases e)
theorem z4u.sub {l m:List En} (h:z4u l) (hs:m.Sublist l):z4u m:=⟨fun x hx=>h.1 x (hs.subset hx),h.2.1.sublist hs,h.2.2.sublist hs⟩
theorem q1p.sub {l m:List Bs} (h:q1p l) (hs:m.Sublist l):q1p m:=⟨fun x hx=>h.1 x (hs.subset hx),h.2.sublist hs⟩
def Sh.none:Sh:=⟨[],[]⟩
structure Ac where
 kind:Int
 text:Bs
 base:Bs
structure Dr where
 s:Bs
 short:Bool
def Y6 (of:Bs) (r:Dr):UInt8 × Dr :=
 match r.s with
 | []=>(0,⟨[],true⟩)
 | c :: t=>if of.contains c then (c,⟨t,r.short⟩) else (0,⟨[],true⟩)
def tenD:Bs:=[48,49,50,51,52,53,54,55,56,57]
def digD:Nat→Int→Dr→Int × Dr
 | 0,n,r=>(n,r)
 | k + 1,n,r=>digD k (10 * n + max 0 ((((Y6 tenD r).1.toNat:Nat):Int) - 48)) (Y6 tenD r).2
def Z8 (many:Nat) (most:Int) (r:Dr):Int × Dr :=
 let x:=digD many 0 r
 (x.1,⟨x.2.s,x.2.short || decide (most < x.1)⟩)
def z4f (r:Dr):Int × Dr :=
 let h:=Z8 2 23 r
 let m:=Z8 2 59 (Y6 [58] h.2).2
 let z:=Z8 2 59 (Y6 [58] m.2).2
 (3600 * h.1 + 60 * m.1 + z.1,z.2)
def z2y (between:Bs) (r:Dr):Int × Dr :=
 let g:=Y6 [43,45] r
 let h:=Z8 2 23 g.2
 let m:=Z8 2 59 (if between=[] then h.2 else (Y6 between h.2).2)
 ((if g.1=45 then -1 else 1) * (3600 * h.1 + 60 * m.1),m.2)
def j0n:Nat→Int→Int→Int
 | 0,_,n=>n
 | k + 1,y,n=>j0n k y n + long y (k + 1)
def z9x (y m d:Int):Int:=j0n (m - 1).toNat y (ahead y - ahead 1970 + d - 1)
def z7u (y m d clock zone:Int) (r:Dr):Int × Int :=
 if r.short=true∨r.s ≠ [] then (0,1)
 else if m < 1∨12 < m∨d < 1∨long y m < d then (0,3)
 else if 86400 * z9x y m d + clock - zone < 0∨4102444799 < 86400 * z9x y m d + clock - zone then (0,3)
 else (86400 * z9x y m d + clock - zone,0)
def webD (s:Bs):Int × Int :=
 let y:=Z8 4 9999 ⟨s,false⟩
 let m:=Z8 2 99 (Y6 [45] y.2).2
 let d:=Z8 2 99 (Y6 [45] m.2).2
 let c:=z4f (Y6 [84] d.2).2
 if c.2.s=[90] then z7u y.1 m.1 d.1 c.1 0 ⟨[],c.2.short⟩
 else z7u y.1 m.1 d.1 c.1 (z2y [58] c.2).1 (z2y [58] c.2).2
def z2h (c:UInt8):Bool:=(97≤c && c≤122) || (65≤c && c≤90)
def z1r (r:Dr):Bs × Dr:=if 3≤r.s.length∧(r.s.take 3).all z2h=true then (r.s.take 3,⟨r.s.drop 3,r.short⟩) else ([],⟨[],true⟩)
def z08:List Bs:=[[74,97,110],[70,101,98],[77,97,114],[65,112,114],[77,97,121],[74,117,110],[74,117,108],[65,117,103],[83,101,112],[79,99,116],[78,111,118],[68,101,99]]
def z5a (r:Dr):Int × Dr :=
 let x:=z1r r
 match z08.idxOf? x.1 with
 | none=>(0,⟨x.2.s,true⟩)
 | some k=>((k:Int) + 1,x.2)
def q7z (s:Bs):Int × Int :=
 let r0:Dr:=⟨s,false⟩
 let r:=match s with
  | []=>r0
  | c :: _=>if z2h c then (Y6 [32] (Y6 [44] (z1r r0).2).2).2 else r0
 let many:=match r.s with
  | _ :: c :: _=>if c=32 then 1 else 2
  | _=>1
 let d:=Z8 many 99 r
 let m:=z5a (Y6 [32] d.2).2
 let y:=Z8 4 9999 (Y6 [32] m.2).2
 let c:=z4f (Y6 [32] y.2).2
 let z:=(Y6 [32] c.2).2
 if z.s=[71,77,84]∨z.s=[85,84] then z7u y.1 m.1 d.1 c.1 0 ⟨[],z.short⟩
 else z7u y.1 m.1 d.1 c.1 (z2y [] z).1 (z2y [] z).2
def z0z:Mk.Fo→Bs
 | .nil=>[]
 | .node _ _ t k r=>t++z0z k++z0z r
def q8v (s:Bs):Bs:=((X4 s).reverse.dropWhile z2v).reverse
structure Nd where
 name:Bs
 ats:List Mk.At
 text:Bs
 kids:Mk.Fo
def Nd.none:Nd:=⟨[],[],[],.nil⟩
def z3g (title:Bs) (p:Nd→Bool):Mk.Fo→Option Nd
 | .nil=>Option.none
 | .node n a t k r=>if n=title && p ⟨n,a,t,k⟩ then some ⟨n,a,t,k⟩ else z3g title p r
def q2m (title:Bs) (f:Mk.Fo):Option Nd:=z3g title (fun _=>true) f
def Y5 (f:Mk.Fo) (title:Bs):Bs:=let x:=(q2m title f).getD Nd.none;q8v (x.text++z0z x.kids)
def valueA (l:List Mk.At) (n:Bs):Option Bs:=(l.find? fun a=>a.n == n).map fun a=>a.v
def q4f (base v:Bs):Bs:=if Mg.isSafe (Mk.light base v) then Mk.light base v else []
def asM (base:Bs) (x:En):En:=⟨if x.id=[] then q4f base x.li else x.id,x.ti,q4f base x.li,x.at_,Mk.html base x.ht⟩
def putM (base:Bs) (out:List En) (x:En):List En :=
 if 3000 < base.length∨3000 < x.ht.length∨out.length=12∨z0r (asM base x) ≠ 0∨(out.any fun z=>z.id == (asM base x).id)=true then out else out++[asM base x]
def j6c:Bs:=[103,117,105,100]
def z6p:Bs:=[116,105,116,108,101]
def z9j:Bs:=[108,105,110,107]
def tPub:Bs:=[112,117,98,68,97,116,101]
def j6b:Bs:=[100,101,115,99,114,105,112,116,105,111,110]
def tId:Bs:=[105,100]
def tUpd:Bs:=[117,112,100,97,116,101,100]
def tRel:Bs:=[114,101,108]
def tAlt:Bs:=[97,108,116,101,114,110,97,116,101]
def y0h:Bs:=[104,114,101,102]
def tSum:Bs:=[115,117,109,109,97,114,121]
def q6l:Bs:=[99,111,110,116,101,110,116]
def q5y (k:Mk.Fo):En:=⟨Y5 k j6c,Y5 k z6p,Y5 k z9j,(q7z (Y5 k tPub)).1,Y5 k j6b⟩
def z8a (x:Nd):Bool:=match valueA x.ats tRel with | Option.none=>true | some v=>v == tAlt
def q0q (k:Mk.Fo):En :=
 ⟨Y5 k tId,Y5 k z6p,(valueA ((z3g z9j z8a k).getD Nd.none).ats y0h).getD [],(webD (Y5 k tUpd)).1,Y5 k (if (q2m q6l k).isSome then q6l else tSum)⟩
def z7t (base title:Bs) (E:Mk.Fo→En):Mk.Fo→List En→List En
 | .nil,out=>out
 | .node n _ _ k r,out=>z7t base title E r (if n=title then putM base out (E k) else out)
def tRss:Bs:=[114,115,115]
def q1a:Bs:=[99,104,97,110,110,101,108]
def y0i:Bs:=[105,116,101,109]
def tFeed:Bs:=[102,101,101,100]
def j2k:Bs:=[101,110,116,114,121]
def xmlM (s:Bs):El × Int:=if 3000 < s.length then (⟨[],[],.nil⟩,2) else xmlR s
def z4b (base s:Bs):List En × Int :=
 if 3000 < base.length then ([],2)
 else if (xmlM s).2 ≠ 0 then ([],(xmlM s).2)
 else if (xmlM s).1.name=tRss then
  match q2m q1a (xmlM s).1.kids with
  | Option.none=>([],5)
  | some c=>(z7t base y0i q5y c.kids [],0)
 else if (xmlM s).1.name=tFeed then (z7t base j2k q0q (xmlM s).1.kids [],0)
 else ([],7)
def OkM (l:List En):Prop:=(∀ x ∈ l,z0r x=0)∧l.Pairwise (fun a b=>a.id ≠ b.id)∧l.length≤12
theorem ok_putM (base:Bs) (l:List En) (x:En) (h:OkM l):OkM (putM base l x):=by
 unfold putM;generalize asM base x=y
 by_cases hc:3000 < base.length∨3000 < x.ht.length∨l.length=12∨z0r y ≠ 0∨(l.any fun z=>z.id == y.id)=true
 ·rw[if_pos hc];exact h
 rw[if_neg hc];obtain⟨ha,hp,hl⟩:=h;refine⟨?_,?_,?_⟩
 ·intro z hz
  rcases List.mem_append.1 hz with hz | hz
  ·exact ha z hz
  ·rw[List.mem_singleton.1 hz];apply Classical.byContradiction;intro hn;exact hc (.inr (.inr (.inr (.inl hn))))
 ·rw[List.pairwise_append]
  refine⟨hp,List.pairwise_singleton _ _,?_⟩;intro a ha' b hb e;rw[List.mem_singleton.1 hb] at e;refine hc (.inr (.inr (.inr (.inr ?_))));rw[List.any_eq_true];exact⟨a,ha',by simpa using e⟩
 ·rw[List.length_append,List.length_singleton]
  have:l.length ≠ 12:=fun e=>hc (.inr (.inr (.inl e)))
  omega
theorem j0d (base title:Bs) (E:Mk.Fo→En):∀ (f:Mk.Fo) (l:List En),OkM l→OkM (z7t base title E f l)
 | .nil,l,h=>h
 | .node n a t k r,l,h=>by
  rw[z7t]
  apply j0d base title E r
  split
  ·exact ok_putM base l _ h
  ·exact h
theorem q4k:OkM []:=⟨(fun _ h=>nomatch h),List.Pairwise.nil,Nat.zero_le _⟩
theorem ok_feed (base s:Bs):OkM (z4b base s).1:=by
 unfold z4b
 split
 ·exact q4k
 split
 ·exact q4k
 split
 ·split
  ·exact q4k
  ·exact j0d _ _ _ _ _ q4k
 split
 ·exact j0d _ _ _ _ _ q4k
 ·exact q4k
theorem feed_err (base s:Bs) (h:(z4b base s).2 ≠ 0):(z4b base s).1=[]:=by
 revert h;unfold z4b
 split
 ·intro _;rfl
 split
 ·intro _;rfl
 split
 ·split
  ·intro _;rfl
  ·intro h;exact absurd rfl h
 split
 ·intro h;exact absurd rfl h
 ·intro _;rfl
example:webD [50,48,48,48,45,48,50,45,50,57,84,49,50,58,51,48,58,48,48,43,48,49,58,51,48]=(951822000,0):=by decide +kernel
example:(webD [49,57,57,57,45,48,50,45,50,57,84,48,48,58,48,48,58,48,48,90]).2=3:=by decide +kernel
end Fd
