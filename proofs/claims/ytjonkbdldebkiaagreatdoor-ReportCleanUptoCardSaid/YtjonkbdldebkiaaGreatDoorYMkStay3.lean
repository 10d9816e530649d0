/- The plain law of tokens: what is read is right; what is printed is read as it was. No program in sight. -/
import Derived.Test.YtjonkbdldebkiaaGreatDoorYUrlPlain
set_option linter.unusedVariables false
set_option linter.unusedSimpArgs false
namespace Mk
open Bld
/-! What is read is right. -/
/-! What is printed is read as it was. -/
theorem takeN_put : ∀ (t : Bs) (n : Nat),(put t).length≤n→takeN n (put t) = (t,true)
 | [],n,_=>by cases n <;> rfl
 | c :: t,n,h=>by
  have e : put (c :: t) = esc c++put t:=rfl
  rw [e,List.length_append] at h
  rw [e]
  by_cases h1 : c = 38
  ·subst h1
   have e1 : esc 38 = [38,97,109,112,59]:=rfl
   rw [e1] at h ⊢
   cases n with
   | zero=>simp at h
   | succ n =>
    have ih:=takeN_put t n (by simp at h;omega)
    have hs : sign ([38,97,109,112,59]++put t) = ([38],5,true):=by simp [sign,named,Mg.pre]
    show takeN (n + 1) (38 :: ([97,109,112,59]++put t)) = _
    rw [takeN,if_pos rfl]
    have hs' : sign (38 :: ([97,109,112,59]++put t)) = ([38],5,true):=hs
    simp only [hs']
    show ([38]++(takeN n (put t)).1,true && (takeN n (put t)).2) = _
    rw [ih]
    rfl
  by_cases h2 : c = 60
  ·subst h2
   have e1 : esc 60 = [38,108,116,59]:=rfl
   rw [e1] at h ⊢
   cases n with
   | zero=>simp at h
   | succ n =>
    have ih:=takeN_put t n (by simp at h;omega)
    have hs : sign (38 :: ([108,116,59]++put t)) = ([60],4,true):=by simp [sign,named,Mg.pre]
    show takeN (n + 1) (38 :: ([108,116,59]++put t)) = _
    rw [takeN,if_pos rfl]
    simp only [hs]
    show ([60]++(takeN n (put t)).1,true && (takeN n (put t)).2) = _
    rw [ih]
    rfl
  by_cases h3 : c = 62
  ·subst h3
   have e1 : esc 62 = [38,103,116,59]:=rfl
   rw [e1] at h ⊢
   cases n with
   | zero=>simp at h
   | succ n =>
    have ih:=takeN_put t n (by simp at h;omega)
    have hs : sign (38 :: ([103,116,59]++put t)) = ([62],4,true):=by simp [sign,named,Mg.pre]
    show takeN (n + 1) (38 :: ([103,116,59]++put t)) = _
    rw [takeN,if_pos rfl]
    simp only [hs]
    show ([62]++(takeN n (put t)).1,true && (takeN n (put t)).2) = _
    rw [ih]
    rfl
  by_cases h4 : c = 34
  ·subst h4
   have e1 : esc 34 = [38,113,117,111,116,59]:=rfl
   rw [e1] at h ⊢
   cases n with
   | zero=>simp at h
   | succ n =>
    have ih:=takeN_put t n (by simp at h;omega)
    have hs : sign (38 :: ([113,117,111,116,59]++put t)) = ([34],6,true):=by simp [sign,named,Mg.pre]
    show takeN (n + 1) (38 :: ([113,117,111,116,59]++put t)) = _
    rw [takeN,if_pos rfl]
    simp only [hs]
    show ([34]++(takeN n (put t)).1,true && (takeN n (put t)).2) = _
    rw [ih]
    rfl
  ·have e1 : esc c = [c]:=by unfold esc;rw [if_neg h1,if_neg h2,if_neg h3,if_neg h4]
   rw [e1] at h ⊢
   cases n with
   | zero=>simp at h
   | succ n =>
    have ih:=takeN_put t n (by simp at h;omega)
    show takeN (n + 1) (c :: put t) = _
    rw [takeN,if_neg h1]
    simp only [ih]
theorem take_put (t : Bs) : take (put t) = (t,true):=takeN_put t _ (Nat.le_refl _)
theorem put_mem (t : Bs) : ∀ x ∈ put t,x ≠ 34∧x ≠ 60:=by
 intro x hx
 obtain ⟨c,_,hc⟩:=List.mem_flatMap.1 hx
 clear hx
 unfold esc at hc
 split at hc
 ·revert x;decide
 ·split at hc
  ·revert x;decide
  ·split at hc
   ·revert x;decide
   ·split at hc
    ·revert x;decide
    ·rename_i h1 h2 h3 h4
     rw [List.mem_singleton.1 hc]
     exact ⟨h4,h2⟩
def nameB (x : UInt8) : Bool:=small x || Mg.isDig x || x == 45
set_option maxRecDepth 100000 in
theorem name_byte : ∀ x,nameB x = true→tagStop x = true∧atStop x = true∧Mg.low x = x∧(white x || x == 47) = false∧x ≠ 62:=Mg.all256 (fun x=>nameB x = true→tagStop x = true∧atStop x = true∧Mg.low x = x∧(white x || x == 47) = false∧x ≠ 62) (by decide)
set_option maxRecDepth 100000 in
theorem small_let : ∀ x,small x = true→Mg.isLet x = true∧nameB x = true∧x ≠ 47∧x ≠ 33∧x ≠ 63:=Mg.all256 (fun x=>small x = true→Mg.isLet x = true∧nameB x = true∧x ≠ 47∧x ≠ 33∧x ≠ 63) (by decide)
theorem nameAll_mem : ∀ (l : Bs) (b : Bool),nameAll b l = true→∀ x ∈ l,nameB x = true
 | [],_,_,_,h=>by cases h
 | c :: t,b,h,x,hx=>by
  unfold nameAll at h
  obtain ⟨h1,h2⟩:=Bool.and_eq_true_iff.1 h
  rcases List.mem_cons.1 hx with q | q
  ·rw [q]
   unfold nameB
   rcases Bool.or_eq_true_iff.1 h1 with p | p
   ·rw [p];rfl
   ·rw [Bool.or_assoc,(Bool.and_eq_true_iff.1 p).2,Bool.or_true]
  ·exact nameAll_mem t false h2 x q
theorem name_parts {n : Bs} (h : isName n = true) : ∃ c t,n = c :: t∧small c = true∧∀ x ∈ n,nameB x = true:=by
 unfold isName at h
 obtain ⟨h1,h2⟩:=Bool.and_eq_true_iff.1 h
 cases n with
 | nil=>simp at h1
 | cons c t =>
  refine ⟨c,t,rfl,?_,nameAll_mem _ _ h2⟩
  unfold nameAll at h2
  have:=(Bool.and_eq_true_iff.1 h2).1
  simpa using this
theorem name_fold {n : Bs} (h : ∀ x ∈ n,nameB x = true) : Mg.fold n = n:=by
 unfold Mg.fold
 rw [List.map_congr_left (fun x q=>(name_byte x (h x q)).2.2.1),List.map_id']
theorem written_cons (a : At) (l : List At) : written (a :: l) = 32 :: (a.n++(61 :: 34 :: (put a.v++(34 :: written l)))):=by
 unfold written
 rw [List.flatMap_cons]
 simp
theorem attrsN_put : ∀ (l : List At) (n : Nat) (out : List At) (R : Bs),checkAts isName out l = 0→l.length + 1≤n→attrsN n (written l++62 :: R) out = some (out++l,R)
 | [],n,out,R,_,hn=>by
  cases n with
  | zero=>omega
  | succ n =>
   show attrsN (n + 1) (62 :: R) out = _
   unfold attrsN
   have e : (62 :: R).dropWhile (fun c=>white c || c == 47) = 62 :: R:=List.dropWhile_cons_of_neg (by decide)
   rw [e]
   simp
 | a :: l,n,out,R,h,hn=>by
  obtain ⟨h1,h2,h3⟩:=(checkAts_cons ..).1 h
  obtain ⟨c,t,hc,hs,hb⟩:=name_parts h1
  cases n with
  | zero=>omega
  | succ n =>
   have ih:=attrsN_put l n (out++[a]) R h3 (by simp at hn;omega)
   rw [written_cons,hc]
   have hbc:=hb c (by rw [hc];simp)
   have hbt : ∀ x ∈ t,nameB x = true:=fun x q=>hb x (by rw [hc];simp [q])
   obtain ⟨y1,y2,y3,y4,y5⟩:=name_byte c hbc
   have e1 : ((32 :: (c :: t++(61 :: 34 :: (put a.v++(34 :: written l)))))++62 :: R).dropWhile (fun c=>white c || c == 47) = c :: (t++(61 :: 34 :: (put a.v++(34 :: (written l++62 :: R))))):=by
    simp only [List.cons_append,List.append_assoc]
    rw [List.dropWhile_cons_of_pos (by decide),List.dropWhile_cons_of_neg (by simp [y4])]
   unfold attrsN
   rw [e1]
   simp only
   rw [if_neg y5]
   have e2 : (t++(61 :: 34 :: (put a.v++(34 :: (written l++62 :: R))))).takeWhile atStop = t:=by
    rw [List.takeWhile_append_of_pos (fun x q=>(name_byte x (hbt x q)).2.1),List.takeWhile_cons_of_neg (by decide),List.append_nil]
   have e3 : (t++(61 :: 34 :: (put a.v++(34 :: (written l++62 :: R))))).dropWhile atStop = 61 :: 34 :: (put a.v++(34 :: (written l++62 :: R))):=by
    rw [List.dropWhile_append_of_pos (fun x q=>(name_byte x (hbt x q)).2.1),List.dropWhile_cons_of_neg (by decide)]
   have e4 : (61 :: 34 :: (put a.v++(34 :: (written l++62 :: R)))).dropWhile white = 61 :: 34 :: (put a.v++(34 :: (written l++62 :: R))):=List.dropWhile_cons_of_neg (by decide)
   rw [e2,e3,e4]
   have e5 : Mg.fold (c :: t) = a.n:=by rw [← hc];exact name_fold hb
   have e6 : valueOf (34 :: (put a.v++(34 :: (written l++62 :: R)))) = some (put a.v,written l++62 :: R):=by
    unfold valueOf
    rw [List.dropWhile_cons_of_neg (by decide)]
    simp only
    rw [if_pos (.inl trivial)]
    have q1 : ∀ x ∈ put a.v,(x != 34) = true:=fun x q=>by simpa using (put_mem a.v x q).1
    rw [List.dropWhile_append_of_pos q1,List.takeWhile_append_of_pos q1,List.dropWhile_cons_of_neg (by decide),List.takeWhile_cons_of_neg (by decide),List.append_nil]
   have e7 : Mg.isAt 61 (61 :: 34 :: (put a.v++(34 :: (written l++62 :: R)))) = true:=by simp [Mg.isAt]
   rw [e5,e7,if_pos rfl,List.tail_cons,e6]
   simp only [Option.map_some,take_put]
   rw [if_pos (by rw [h1,h2];rfl)]
   rw [ih,List.append_assoc]
   rfl
theorem written_len : ∀ l : List At,l.length≤(written l).length
 | []=>Nat.zero_le _
 | a :: l=>by
  have:=written_len l
  rw [written_cons]
  simp
  omega
theorem attrsOf_put (l : List At) (R : Bs) (h : checkAts isName [] l = 0) : attrsOf (written l++62 :: R) = some (l,R):=by
 unfold attrsOf
 have:=written_len l
 rw [attrsN_put l _ [] R h (by simp;omega),List.nil_append]
theorem written_first (l : List At) (R : Bs) : ∃ y r,written l++62 :: R = y :: r∧tagStop y = false:=by
 cases l with
 | nil=>exact ⟨62,R,rfl,by decide⟩
 | cons a l=>rw [written_cons];exact ⟨32,_,rfl,by decide⟩
theorem here_open (n : Bs) (l : List At) (R : Bs) (hn : isName n = true) (hl : checkAts isName [] l = 0) : hereAt (60 :: (n++(written l++62 :: R))) = .tag ⟨2,n,l,[]⟩ R:=by
 obtain ⟨c,t,hc,hs,hb⟩:=name_parts hn
 obtain ⟨y,r,hy,hyt⟩:=written_first l R
 have e0 : letAt (60 :: (n++(written l++62 :: R))).tail = true:=by rw [hc];exact (small_let c hs).1
 unfold hereAt
 rw [if_pos e0,List.tail_cons]
 unfold openAt
 have p1 : ∀ x ∈ n,tagStop x = true:=fun x q=>(name_byte x (hb x q)).1
 have e1 : (n++(written l++62 :: R)).takeWhile tagStop = n:=by
  rw [hy,List.takeWhile_append_of_pos p1,List.takeWhile_cons_of_neg (by simp [hyt]),List.append_nil]
 have e2 : (n++(written l++62 :: R)).dropWhile tagStop = written l++62 :: R:=by
  rw [List.dropWhile_append_of_pos p1,hy,List.dropWhile_cons_of_neg (by simp [hyt])]
 simp only [e1,e2,attrsOf_put l R hl,name_fold hb,hn,if_true]
theorem here_close (n : Bs) (R : Bs) (hn : isName n = true) : hereAt (60 :: 47 :: (n++62 :: R)) = .tag ⟨3,n,[],[]⟩ R:=by
 obtain ⟨c,t,hc,hs,hb⟩:=name_parts hn
 have e0 : letAt (60 :: 47 :: (n++62 :: R)).tail = false:=by
  show Mg.isLet 47 = false
  decide
 have e9 : (Mg.pre [60,47] (60 :: 47 :: (n++62 :: R)) && letAt ((60 :: 47 :: (n++62 :: R)).drop 2)) = true:=by
  have : letAt (n++62 :: R) = true:=by rw [hc];exact (small_let c hs).1
  show (Mg.pre [60,47] (60 :: 47 :: (n++62 :: R)) && letAt (n++62 :: R)) = true
  rw [this]
  rfl
 unfold hereAt
 rw [if_neg (by rw [e0];decide),if_pos e9]
 unfold closeAt
 have p1 : ∀ x ∈ n,tagStop x = true:=fun x q=>(name_byte x (hb x q)).1
 have e1 : (n++62 :: R).takeWhile tagStop = n:=by
  rw [List.takeWhile_append_of_pos p1,List.takeWhile_cons_of_neg (by decide),List.append_nil]
 have e2 : (n++62 :: R).dropWhile tagStop = 62 :: R:=by
  rw [List.dropWhile_append_of_pos p1,List.dropWhile_cons_of_neg (by decide)]
 have e3 : behind [62] (62 :: R) = some R:=by unfold behind;simp [Mg.pre]
 have e4 : (60 :: 47 :: (n++62 :: R)).drop 2 = n++62 :: R:=rfl
 simp only [e4,e1,e2,e3,name_fold hb,hn,if_true]
theorem toksN_text : ∀ (l : Bs) (n : Nat) (text : Bs) (out : List Tok) (R : Bs),(∀ x ∈ l,x ≠ 60)→l.length≤n→toksN n (l++R) text out = toksN (n - l.length) R (text++l) out
 | [],n,text,out,R,_,_=>by simp
 | c :: l,n,text,out,R,h,hn=>by
  cases n with
  | zero=>simp at hn
  | succ n =>
   show toksN (n + 1) (c :: (l++R)) text out = _
   rw [toksN,if_neg (h c (by simp)),toksN_text l n (text++[c]) out R (fun x q=>h x (by simp [q])) (by simpa using hn)]
   simp
/-- texts don't stand side by side. -/
def Adj : Bool→List Tok→Prop
 | _,[]=>True
 | p,t :: r=>(t.kind = 1→p = false)∧Adj (decide (t.kind = 1)) r
theorem Adj.weak : ∀ {l : List Tok},Adj true l→∀ p,Adj p l
 | [],_,_=>trivial
 | _ :: _,h,_=>⟨fun q=>(by cases h.1 q),h.2⟩
theorem flush_put (t : Bs) (out : List Tok) (h : t ≠ []) : flush (put t) out = out++[⟨1,[],[],t⟩]:=by
 unfold flush
 simp only [take_put]
 rw [if_neg h]
theorem flush_nil (out : List Tok) : flush [] out = out:=by
 have e : (take []).1 = []:=rfl
 unfold flush
 simp [e]
theorem read_list : ∀ (L : List Tok) (p : Bool) (text : Bs) (out : List Tok) (n : Nat),(∀ t ∈ L,TokOk t)→Adj p L→(p = false→text = [])→(bytes L).length≤n→toksN n (bytes L) text out = flush text out++L
 | [],p,text,out,n,_,_,_,_=>by
  have e : toksN n [] text out = flush text out:=by cases n <;> (unfold toksN;rfl)
  show toksN n [] text out = _
  rw [e,List.append_nil]
 | t :: L,p,text,out,n,hL,ha,hp,hn=>by
  have hb : bytes (t :: L) = tokBytes t++bytes L:=rfl
  have ih:=fun p' text' out' n' h1 h2 h3=>read_list L p' text' out' n' (fun x q=>hL x (by simp [q])) h1 h2 h3
  obtain ⟨a1,a2⟩:=ha
  rw [hb,List.length_append] at hn
  rcases hL t (by simp) with ⟨k,k1,k2,k3⟩ | ⟨k,k1,k2,k3⟩ | ⟨k,k1,k2,k3⟩
  ·have ht : t = ⟨1,[],[],t.text⟩:=by cases t;simp_all
   have e1 : tokBytes t = put t.text:=by unfold tokBytes;rw [if_pos k]
   have htx:=hp (a1 k)
   subst htx
   rw [e1] at hn
   rw [hb,e1,toksN_text _ _ _ _ _ (fun x q=>(put_mem _ x q).2) (by omega),List.nil_append]
   rw [ih true (put t.text) out _ (by rw [show decide (t.kind = 1) = true by simpa using k] at a2;exact a2) (fun q=>by cases q) (by omega),flush_put _ _ k3,flush_nil,List.append_assoc]
   rw [← ht]
   rfl
  ·have ht : t = ⟨2,t.name,t.ats,[]⟩:=by cases t;simp_all
   have e1 : tokBytes t = [60]++t.name++written t.ats++[62]:=by unfold tokBytes;rw [if_neg (by rw [k];decide),if_pos k]
   have e2 : tokBytes t++bytes L = 60 :: (t.name++(written t.ats++62 :: bytes L)):=by rw [e1];simp
   have e3 : (tokBytes t).length ≥ 1:=by rw [e1];simp
   cases n with
   | zero=>omega
   | succ n =>
    rw [hb,e2,toksN,if_pos rfl,here_open _ _ _ k1 k2]
    simp only
    rw [← ht,ih false [] _ n (by rw [show decide (t.kind = 1) = false by simp [k]] at a2;exact a2) (fun _=>rfl) (by omega),flush_nil,List.append_assoc]
    rfl
  ·have ht : t = ⟨3,t.name,[],[]⟩:=by cases t;simp_all
   have e1 : tokBytes t = [60,47]++t.name++[62]:=by unfold tokBytes;rw [if_neg (by rw [k];decide),if_neg (by rw [k];decide),if_pos k]
   have e2 : tokBytes t++bytes L = 60 :: 47 :: (t.name++62 :: bytes L):=by rw [e1];simp
   have e3 : (tokBytes t).length ≥ 1:=by rw [e1];simp
   cases n with
   | zero=>omega
   | succ n =>
    rw [hb,e2,toksN,if_pos rfl,here_close _ _ k1]
    simp only
    rw [← ht,ih false [] _ n (by rw [show decide (t.kind = 1) = false by simp [k]] at a2;exact a2) (fun _=>rfl) (by omega),flush_nil,List.append_assoc]
    rfl
theorem toks_bytes (L : List Tok) (h : ∀ t ∈ L,TokOk t) (ha : Adj false L) : toks (bytes L) = L:=by
 unfold toks
 rw [read_list L false [] [] _ h ha (fun _=>rfl) (Nat.le_refl _),flush_nil,List.nil_append]
theorem flat_ok : ∀ (f : Fo) (names : List Bs) (prev : Bool),checkF f names prev = 0→(∀ t ∈ flat f,TokOk t)∧∀ m,Adj true m→Adj prev (flat f++m):=by
 intro f
 induction f with
 | nil=>intro _ prev _;exact ⟨fun _ q=>(by cases q),fun m h=>h.weak prev⟩
 | node n a t k r ihk ihr =>
  intro names prev h
  obtain ⟨g1,g2,g3,g4⟩:=(checkF_node ..).1 h
  obtain ⟨r1,r2⟩:=ihr names _ g4
  by_cases hn : n = []
  ·subst hn
   obtain ⟨q1,q2,q3⟩:=(nodeE_text ..).1 g1
   have e : flat (.node [] a t k r) = ⟨1,[],[],t⟩ :: flat r:=by rw [flat,if_pos rfl]
   rw [e]
   refine ⟨fun x q=>?_,fun m hm=>?_⟩
   ·rcases List.mem_cons.1 q with q | q
    ·rw [q];exact .inl ⟨rfl,rfl,rfl,q1⟩
    ·exact r1 x q
   ·exact ⟨fun _=>by cases prev with | false=>rfl | true=>exact absurd ⟨rfl,rfl⟩ g2,r2 m hm⟩
  ·obtain ⟨e1,e2,e3,e4,e5⟩:=(nodeE_el _ _ hn _ _ _).1 g1
   obtain ⟨k1,k2⟩:=ihk _ false g3
   have e : flat (.node n a t k r) = ⟨2,n,a,[]⟩ :: ((if emptyB n = true then [] else flat k++[⟨3,n,[],[]⟩])++flat r):=by rw [flat,if_neg hn]
   rw [show decide (n = []) = false by simp [hn]] at r2
   rw [e]
   refine ⟨fun x q=>?_,fun m hm=>?_⟩
   ·rcases List.mem_cons.1 q with q | q
    ·rw [q];exact .inr (.inl ⟨rfl,e2,e4,rfl⟩)
    ·rcases List.mem_append.1 q with q | q
     ·split at q
      ·cases q
      ·rcases List.mem_append.1 q with q | q
       ·exact k1 x q
       ·rw [List.mem_singleton.1 q];exact .inr (.inr ⟨rfl,e2,rfl,rfl⟩)
     ·exact r1 x q
   ·refine ⟨fun q=>(by cases q),?_⟩
    show Adj false (((if emptyB n = true then [] else flat k++[⟨3,n,[],[]⟩])++flat r)++m)
    split
    ·exact r2 m hm
    ·rw [List.append_assoc,List.append_assoc]
     exact k2 _ ⟨fun q=>(by cases q),r2 m hm⟩
theorem read_flat (f : Fo) (hc : checkF f [] false = 0) : toks (bytes (flat f)) = flat f:=by
 obtain ⟨h1,h2⟩:=flat_ok f [] false hc
 have:=h2 [] trivial
 rw [List.append_nil] at this
 exact toks_bytes _ h1 this
end Mk

/- The plain law of a page: what the report writes is clean, and stays as it is. No program in sight. -/
namespace Mk
open Fo
/-- what an entry's line tells: title, link, the time as it is written (with a blank ahead; or nothing), words. -/
structure Ln where
 ti : Bs
 li : Bs
 dt : Bs
 wo : Bs
def lineB (x : Ln) : Bs:=[60,108,105,62]++((if x.li = [] then put x.ti else [60,97,32,104,114,101,102,61,34]++put x.li++[34,62]++put x.ti++[60,47,97,62])++(x.dt++([60,112,62]++put x.wo++[60,47,112,62]++[60,47,108,105,62])))
def pageB (l : List Ln) : Bs:=[60,117,108,62]++l.flatMap lineB++[60,47,117,108,62]
/-- a text node ahead of others, if there is a text. -/
def textF (s : Bs) (r : Fo) : Fo:=if s = [] then r else node [] [] s nil r
def wordsF (w : Bs) : Fo:=node [112] [] [] (textF w nil) nil
def kidsF (x : Ln) : Fo:=if x.li = [] then textF (x.ti++x.dt) (wordsF x.wo) else node [97] [⟨[104,114,101,102],x.li⟩] [] (textF x.ti nil) (textF x.dt (wordsF x.wo))
def linesF : List Ln→Fo
 | []=>nil
 | x :: l=>node [108,105] [] [] (kidsF x) (linesF l)
def pageF (l : List Ln) : Fo:=node [117,108] [] [] (linesF l) nil
theorem put_append (a b : Bs) : put (a++b) = put a++put b:=by unfold put;rw [List.flatMap_append]
theorem bytes_append (a b : List Tok) : bytes (a++b) = bytes a++bytes b:=by unfold bytes;rw [List.flatMap_append]
theorem bytes_cons (a : Tok) (b : List Tok) : bytes (a :: b) = tokBytes a++bytes b:=rfl
theorem bytes_textF (s : Bs) (r : Fo) : bytes (flat (textF s r)) = put s++bytes (flat r):=by
 unfold textF
 split
 ·rename_i h;rw [h];rfl
 ·rw [flat,if_pos rfl,bytes_cons];rfl
theorem bytes_el (n : Bs) (a : List At) (k r : Fo) (hn : n ≠ []) (he : emptyB n = false) : bytes (flat (node n a [] k r)) = [60]++n++written a++[62]++bytes (flat k)++([60,47]++n++[62])++bytes (flat r):=by
 have e2 : tokBytes ⟨2,n,a,[]⟩ = [60]++n++written a++[62]:=rfl
 have e3 : tokBytes ⟨3,n,[],[]⟩ = [60,47]++n++[62]:=rfl
 have e4 : bytes [⟨3,n,[],[]⟩] = [60,47]++n++[62]:=by rw [bytes_cons,e3];simp [bytes]
 rw [flat,if_neg hn,he,bytes_cons,e2,bytes_append]
 simp only [Bool.false_eq_true,if_false]
 rw [bytes_append,e4]
 simp only [List.append_assoc]
theorem bytes_words (w : Bs) : bytes (flat (wordsF w)) = [60,112,62]++put w++[60,47,112,62]:=by
 unfold wordsF
 rw [bytes_el _ _ _ _ (by decide) (by decide),bytes_textF]
 simp [written,flat,bytes]
theorem bytes_kids (x : Ln) (hd : put x.dt = x.dt) : bytes (flat (kidsF x)) = (if x.li = [] then put x.ti else [60,97,32,104,114,101,102,61,34]++put x.li++[34,62]++put x.ti++[60,47,97,62])++(x.dt++([60,112,62]++put x.wo++[60,47,112,62])):=by
 unfold kidsF
 split
 ·rw [bytes_textF,bytes_words,put_append,hd,List.append_assoc]
 ·rw [bytes_el _ _ _ _ (by decide) (by decide),bytes_textF,bytes_textF,bytes_words,hd]
  simp [written,flat,bytes]
theorem bytes_lines : ∀ (l : List Ln),(∀ x ∈ l,put x.dt = x.dt)→bytes (flat (linesF l)) = l.flatMap lineB
 | [],_=>rfl
 | x :: l,h=>by
  have ih:=bytes_lines l (fun y hy=>h y (List.mem_cons_of_mem _ hy))
  unfold linesF
  rw [bytes_el _ _ _ _ (by decide) (by decide),bytes_kids x (h x (List.mem_cons_self ..)),ih,List.flatMap_cons]
  unfold lineB
  simp [written]
theorem bytes_page (l : List Ln) (h : ∀ x ∈ l,put x.dt = x.dt) : bytes (flat (pageF l)) = pageB l:=by
 unfold pageF pageB
 rw [bytes_el _ _ _ _ (by decide) (by decide),bytes_lines l h]
 simp [written,flat,bytes]
theorem check_textF (s : Bs) (r : Fo) (names : List Bs) (h : checkF r names true = 0) (h2 : checkF r names false = 0) : checkF (textF s r) names false = 0:=by
 unfold textF
 split
 ·exact h2
 ·rename_i hs
  rw [checkF]
  have e : nodeE names [] [] s nil = 0:=by unfold nodeE;rw [if_pos rfl,if_neg];rintro (q | q | q);exact hs q;exact q rfl;exact q rfl
  rw [e]
  simp [checkF,h]
theorem check_words (w : Bs) (p : Bool) : checkF (wordsF w) [[117,108],[108,105]] p = 0:=by
 unfold wordsF
 rw [checkF]
 have e : nodeE [[117,108],[108,105]] [112] [] [] (textF w nil) = 0:=rfl
 have e2 : checkF (textF w nil) ([[117,108],[108,105]]++[[112]]) false = 0:=check_textF w nil _ rfl rfl
 rw [e,e2]
 simp [checkF]
theorem check_kids (x : Ln) : checkF (kidsF x) [[117,108],[108,105]] false = 0:=by
 unfold kidsF
 split
 ·exact check_textF _ _ _ (check_words _ _) (check_words _ _)
 ·rw [checkF]
  have e : nodeE [[117,108],[108,105]] [97] [⟨[104,114,101,102],x.li⟩] [] (textF x.ti nil) = 0:=rfl
  have e2 : checkF (textF x.ti nil) ([[117,108],[108,105]]++[[97]]) false = 0:=check_textF _ nil _ rfl rfl
  have e3 : checkF (textF x.dt (wordsF x.wo)) [[117,108],[108,105]] false = 0:=check_textF _ _ _ (check_words _ _) (check_words _ _)
  rw [e,e2]
  simp [e3]
theorem check_lines : ∀ (l : List Ln) (p : Bool),checkF (linesF l) [[117,108]] p = 0
 | [],_=>rfl
 | x :: l,p=>by
  have ih:=check_lines l false
  unfold linesF
  rw [checkF]
  have e : nodeE [[117,108]] [108,105] [] [] (kidsF x) = 0:=rfl
  have e2 : checkF (kidsF x) ([[117,108]]++[[108,105]]) false = 0:=check_kids x
  rw [e,e2]
  simp [ih]
theorem check_page (l : List Ln) : checkF (pageF l) [] false = 0:=by
 unfold pageF
 rw [checkF]
 have e : nodeE [] [117,108] [] [] (linesF l) = 0:=rfl
 have e2 : checkF (linesF l) ([]++[[117,108]]) false = 0:=check_lines l false
 rw [e,e2]
 simp [checkF]
theorem depth_textF (s : Bs) (r : Fo) : (textF s r).depth = r.depth:=by
 unfold textF
 split
 ·rfl
 ·rfl
theorem depth_kids (x : Ln) : (kidsF x).depth≤1:=by
 have hw : (wordsF x.wo).depth≤1:=by
  unfold wordsF
  rw [depth,if_neg (by decide),depth_textF]
  decide
 unfold kidsF
 split
 ·rw [depth_textF];exact hw
 ·rw [depth,if_neg (by decide),depth_textF,depth_textF]
  have e : Fo.depth nil = 0:=rfl
  rw [e]
  omega
theorem depth_lines : ∀ l : List Ln,(linesF l).depth≤2
 | []=>by decide
 | x :: l=>by
  have ih:=depth_lines l
  have hk:=depth_kids x
  unfold linesF
  rw [depth,if_neg (by decide)]
  omega
theorem depth_page (l : List Ln) : (pageF l).depth≤8:=by
 have h:=depth_lines l
 unfold pageF
 rw [depth,if_neg (by decide)]
 have e : Fo.depth nil = 0:=rfl
 rw [e]
 omega
theorem stable_textF (s : Bs) (r : Fo) (h : Stable [] r) : Stable [] (textF s r):=by
 unfold textF
 split
 ·exact h
 ·exact ⟨fun q=>absurd rfl q,trivial,h⟩
theorem stable_words (w : Bs) : Stable [] (wordsF w):=⟨fun _=>⟨rfl,rfl,rfl,rfl,fun q=>by cases q.1⟩,stable_textF _ _ trivial,trivial⟩
theorem stable_kids (x : Ln) (h : x.li = [] ∨ goodLink x.li = true) : Stable [] (kidsF x):=by
 unfold kidsF
 split
 ·exact stable_textF _ _ (stable_words _)
 ·rename_i hl
  have hg : goodLink x.li = true:=h.elim (fun q=>absurd q hl) id
  refine ⟨fun _=>⟨rfl,rfl,rfl,?_,fun q=>by cases q.1⟩,stable_textF _ _ trivial,stable_textF _ _ (stable_words _)⟩
  unfold cleanAts
  simp only [List.flatMap_cons,List.flatMap_nil,List.append_nil]
  unfold cleanAt
  have e1 : ¬(!mayB [97] [104,114,101,102]) = true:=by decide
  have e2 : linkB [104,114,101,102] = true:=by decide
  rw [if_neg e1,if_pos e2,light_nil,if_pos hg]
theorem stable_lines : ∀ l : List Ln,(∀ x ∈ l,x.li = [] ∨ goodLink x.li = true)→Stable [] (linesF l)
 | [],_=>trivial
 | x :: l,h=>⟨fun _=>⟨rfl,rfl,rfl,rfl,fun q=>by cases q.1⟩,stable_kids x (h x (List.mem_cons_self ..)),stable_lines l (fun y hy=>h y (List.mem_cons_of_mem _ hy))⟩
/-- A PAGE IS CLEAN: as Html it stays as it is. -/
theorem html_page (l : List Ln) (hd : ∀ x ∈ l,put x.dt = x.dt) (hl : ∀ x ∈ l,x.li = [] ∨ goodLink x.li = true) : html [] (pageB l) = pageB l:=by
 have hc:=check_page l
 have hst : Stable [] (pageF l):=⟨fun _=>⟨rfl,rfl,rfl,rfl,fun q=>by cases q.1⟩,stable_lines l hl,trivial⟩
 have hcl : clean [] (pageF l) = pageF l:=by
  unfold clean
  exact stable_same [] (pageF l) [] nil hst (check_right _ _ _ hc) hc
 unfold html
 rw [← bytes_page l hd,read_flat _ hc,Bld.build_flat _ hc (depth_page l),hcl]
end Mk

/- The plain law of dates: days ahead of a year, a month's length, a time as it is written. No program in sight. -/
namespace Fd
abbrev Bs:=List UInt8
/-- is a year a leap year? -/
def lpB (y : Int) : Bool:=decide (y % 4 = 0∧¬ y % 100 = 0 ∨ y % 400 = 0)
def lp (y : Int) : Int:=if lpB y then 1 else 0
theorem lp_01 (y : Int) : 0≤lp y∧lp y≤1:=by unfold lp;split <;> omega
/-- days ahead of a year, from year 0 on. -/
def ahead (y : Int) : Int:=if y = 0 then 0 else 365 * (y - 1 + 1) + (y - 1) / 4 - (y - 1) / 100 + (y - 1) / 400 + 1
theorem year_len (y : Int) (h : 1≤y) : ahead (y + 1) - ahead y = 365 + lp y:=by
 unfold ahead lp lpB
 rw [if_neg (by omega),if_neg (by omega)]
 by_cases q : y % 4 = 0∧¬ y % 100 = 0 ∨ y % 400 = 0
 ·rw [if_pos (decide_eq_true q)];omega
 ·rw [if_neg (by rw [decide_eq_false q];simp)];omega
/-- how long a month is. -/
def long (y m : Int) : Int:=if m = 2 then 28 + lp y else if m = 4 ∨ m = 6 ∨ m = 9 ∨ m = 11 then 30 else 31
/-- days from a month's beginning to the year's end. -/
def rest (y m : Int) : Int :=
 if m = 1 then 365 + lp y else if m = 2 then 334 + lp y else if m = 3 then 306 else if m = 4 then 275 else if m = 5 then 245 else if m = 6 then 214 else if m = 7 then 184
 else if m = 8 then 153 else if m = 9 then 122 else if m = 10 then 92 else if m = 11 then 61 else if m = 12 then 31 else 0
theorem rest_step (y m : Int) (h1 : 1≤m) (h2 : m≤12) : rest y m = long y m + rest y (m + 1):=by
 have h : m = 1 ∨ m = 2 ∨ m = 3 ∨ m = 4 ∨ m = 5 ∨ m = 6 ∨ m = 7 ∨ m = 8 ∨ m = 9 ∨ m = 10 ∨ m = 11 ∨ m = 12:=by omega
 rcases h with rfl | rfl | rfl | rfl | rfl | rfl | rfl | rfl | rfl | rfl | rfl | rfl <;> (unfold rest long;simp;try omega)
theorem long_le (y m : Int) : 28≤long y m∧long y m≤31:=by
 have:=lp_01 y
 unfold long
 split
 ·omega
 split <;> omega
def yrs : Nat→Int→Int→Int × Int
 | 0,y,d=>(y,d)
 | n + 1,y,d=>if 365 + lp y≤d then yrs n (y + 1) (d - (365 + lp y)) else (y,d)
def mths : Nat→Int→Int→Int→Int × Int
 | 0,_,m,d=>(m,d)
 | n + 1,y,m,d=>if long y m≤d then mths n y (m + 1) (d - long y m) else (m,d)
theorem yrs_end : ∀ (n : Nat) (y d : Int),d < 365 * n→0≤d→0≤(yrs n y d).2∧(yrs n y d).2 < 365 + lp (yrs n y d).1∧y≤(yrs n y d).1∧(yrs n y d).1≤y + n
 | 0,y,d,h,h0=>by simp at h;omega
 | n + 1,y,d,h,h0=>by
  have:=lp_01 y
  rw [yrs]
  split
  ·obtain ⟨a,b,c,e⟩:=yrs_end n (y + 1) (d - (365 + lp y)) (by omega) (by omega)
   exact ⟨a,b,by omega,by omega⟩
  ·exact ⟨h0,by simp only;omega,by simp only;omega,by simp only;omega⟩
theorem yrs_sum : ∀ (n : Nat) (y d : Int),1≤y→ahead (yrs n y d).1 + (yrs n y d).2 = ahead y + d
 | 0,y,d,_=>rfl
 | n + 1,y,d,h=>by
  have h2:=year_len y h
  rw [yrs]
  split
  ·rw [yrs_sum n (y + 1) _ (by omega)];omega
  ·rfl
theorem mths_end : ∀ (n : Nat) (y m d : Int),1≤m→m + n = 13→0≤d→d < rest y m→1≤(mths n y m d).1∧(mths n y m d).1≤12∧0≤(mths n y m d).2∧(mths n y m d).2 < long y (mths n y m d).1
 | 0,y,m,d,h1,h2,h3,h4=>by
  have : m = 13:=by omega
  rw [this] at h4
  have e : rest y 13 = 0:=rfl
  omega
 | n + 1,y,m,d,h1,h2,h3,h4=>by
  have hr:=rest_step y m h1 (by omega)
  rw [mths]
  split
  ·exact mths_end n y (m + 1) _ (by omega) (by omega) (by omega) (by omega)
  ·exact ⟨h1,by simp only;omega,h3,by simp only;omega⟩
/-- a number of so many digits. -/
def digs : Nat→Nat→Bs
 | 0,_=>[]
 | k + 1,n=>digs k (n / 10)++[UInt8.ofNat (48 + n % 10)]
def yearOf (at_ : Int) : Int:=(yrs 200 1970 (at_ / 86400)).1
def dayOf (at_ : Int) : Int:=(yrs 200 1970 (at_ / 86400)).2
def monOf (at_ : Int) : Int:=(mths 12 (yearOf at_) 1 (dayOf at_)).1
def mdayOf (at_ : Int) : Int:=(mths 12 (yearOf at_) 1 (dayOf at_)).2
/-- a time as it is written. -/
def dateB (at_ : Int) : Bs :=
 digs 4 (yearOf at_).toNat++[45]++digs 2 (monOf at_).toNat++[45]++digs 2 (mdayOf at_ + 1).toNat++[84]++digs 2 (at_ % 86400 / 3600).toNat++[58]++digs 2 (at_ % 86400 / 60 % 60).toNat++[58]++digs 2 (at_ % 86400 % 60).toNat++[90]
theorem year_range (at_ : Int) (h0 : 0≤at_) (h1 : at_≤4102444799) : 1970≤yearOf at_∧yearOf at_≤2099∧0≤dayOf at_∧dayOf at_ < 365 + lp (yearOf at_):=by
 obtain ⟨a,b,c,e⟩:=yrs_end 200 1970 (at_ / 86400) (by omega) (by omega)
 have hs:=yrs_sum 200 1970 (at_ / 86400) (by omega)
 unfold yearOf dayOf
 refine ⟨c,?_,a,b⟩
 generalize (yrs 200 1970 (at_ / 86400)).1 = y at *
 generalize (yrs 200 1970 (at_ / 86400)).2 = d at *
 unfold ahead at hs
 rw [if_neg (by omega),if_neg (by omega)] at hs
 omega
theorem mon_range (at_ : Int) (h0 : 0≤at_) (h1 : at_≤4102444799) : 1≤monOf at_∧monOf at_≤12∧0≤mdayOf at_∧mdayOf at_ < long (yearOf at_) (monOf at_):=by
 obtain ⟨_,_,a,b⟩:=year_range at_ h0 h1
 exact mths_end 12 (yearOf at_) 1 (dayOf at_) (by omega) (by omega) a (by show _ < 365 + lp _;omega)
/-- bytes that stand for themselves. -/
def plainC (c : UInt8) : Bool:=c != 38 && c != 60 && c != 62 && c != 34
theorem put_plain : ∀ s : Bs,s.all plainC = true→Mk.put s = s
 | [],_=>rfl
 | c :: t,h=>by
  rw [List.all_cons,Bool.and_eq_true] at h
  have h2:=put_plain t h.2
  have h1:=h.1
  unfold plainC at h1
  simp only [Bool.and_eq_true,bne_iff_ne,ne_eq] at h1
  have e : Mk.esc c = [c]:=by
   unfold Mk.esc
   rw [if_neg h1.1.1.1,if_neg h1.1.1.2,if_neg h1.1.2,if_neg h1.2]
  show Mk.esc c++Mk.put t = _
  rw [e,h2];rfl
theorem digs_plain : ∀ (k n : Nat),(digs k n).all plainC = true
 | 0,_=>rfl
 | k + 1,n=>by
  rw [digs,List.all_append,digs_plain k]
  have h : n % 10 < 10:=Nat.mod_lt _ (by decide)
  have hd : ∀ m : Fin 10,([UInt8.ofNat (48 + m.val)].all plainC) = true:=by decide
  exact hd ⟨n % 10,h⟩
theorem put_date (at_ : Int) : Mk.put (dateB at_) = dateB at_:=by
 refine put_plain _ ?_
 unfold dateB
 simp only [List.all_append,digs_plain,Bool.true_and,Bool.and_true]
 decide
theorem digs_len : ∀ (k n : Nat),(digs k n).length = k
 | 0,_=>rfl
 | k + 1,n=>by rw [digs,List.length_append,digs_len k];rfl
theorem date_len (at_ : Int) : (dateB at_).length = 20:=by
 unfold dateB
 simp [digs_len]
end Fd

/- The plain law of entries and shelves: what is right; entries that come, marks, what is dropped; a right shelf stays right. No program in sight. -/
namespace Fd
structure En where
 id : Bs
 ti : Bs
 li : Bs
 at_ : Int
 ht : Bs
 deriving DecidableEq
/-- is markup clean, and as it is printed? -/
def staysB (s : Bs) : Bool:=decide (s.length≤3000) && (Mk.safeF (Mk.build (Mk.toks s)) && (Mk.bytes (Mk.flat (Mk.build (Mk.toks s))) == s))
/-- what is wrong with an entry. -/
def checkEn (x : En) : Int :=
 if x.id = [] then 1
 else if 60 < x.id.length ∨ 3000 < x.ti.length ∨ 3000 < x.li.length ∨ 3000 < x.ht.length then 2
 else if x.at_ < 0 ∨ 4102444799 < x.at_ then 3
 else if (x.li ≠ []∧Mg.isSafe x.li = false) ∨ staysB x.ht = false then 4 else 0
/-- texts in the order of their bytes: -1, 0, 1. -/
def cmpB : Bs→Bs→Int
 | [],[]=>0
 | [],_ :: _=>-1
 | _ :: _,[]=>1
 | a :: s,b :: t=>if a = b then cmpB s t else if a < b then -1 else 1
theorem cmpB_eq : ∀ a b : Bs,cmpB a b = 0 ↔ a = b
 | [],[]=>⟨fun _=>rfl,fun _=>rfl⟩
 | [],b :: t=>⟨fun h=>by simp [cmpB] at h,fun h=>by cases h⟩
 | a :: s,[]=>⟨fun h=>by simp [cmpB] at h,fun h=>by cases h⟩
 | a :: s,b :: t=>by
  rw [cmpB]
  by_cases h : a = b
  ·rw [if_pos h,cmpB_eq s t,h]
   constructor
   ·intro e;rw [e]
   ·intro e;injection e
  ·rw [if_neg h]
   constructor
   ·intro e;split at e <;> cases e
   ·intro e;injection e with e1 _;exact absurd e1 h
theorem cmpB_anti : ∀ a b : Bs,cmpB b a = - cmpB a b
 | [],[]=>rfl
 | [],b :: t=>rfl
 | a :: s,[]=>rfl
 | a :: s,b :: t=>by
  rw [cmpB,cmpB]
  by_cases h : a = b
  ·rw [if_pos h,if_pos h.symm,cmpB_anti s t]
  ·rw [if_neg h,if_neg (fun e=>h e.symm)]
   by_cases h2 : a < b
   ·rw [if_pos h2,if_neg (fun q=>by have:=UInt8.lt_asymm h2;exact this q)]
    rfl
   ·have h3 : b < a:=by
     rcases UInt8.lt_or_lt_of_ne h with q | q
     ·exact absurd q h2
     ·exact q
    rw [if_neg h2,if_pos h3]
theorem cmpB_trans : ∀ a b c : Bs,cmpB a b < 0→cmpB b c < 0→cmpB a c < 0
 | [],[],c,h,_=>by simp [cmpB] at h
 | [],b :: t,[],_,h=>by simp [cmpB] at h
 | [],b :: t,c :: u,_,_=>by simp [cmpB]
 | a :: s,[],c,h,_=>by simp [cmpB] at h
 | a :: s,b :: t,[],_,h=>by simp [cmpB] at h
 | a :: s,b :: t,c :: u,h1,h2=>by
  rw [cmpB] at h1 h2 ⊢
  by_cases e1 : a = b
  ·subst e1
   rw [if_pos rfl] at h1
   by_cases e2 : a = c
   ·subst e2
    rw [if_pos rfl] at h2 ⊢
    exact cmpB_trans s t u h1 h2
   ·rw [if_neg e2] at h2 ⊢
    exact h2
  ·rw [if_neg e1] at h1
   have l1 : a < b:=by
    by_cases q : a < b
    ·exact q
    ·rw [if_neg q] at h1;omega
   by_cases e2 : b = c
   ·subst e2
    rw [if_neg e1,if_pos l1];omega
   ·rw [if_neg e2] at h2
    have l2 : b < c:=by
     by_cases q : b < c
     ·exact q
     ·rw [if_neg q] at h2;omega
    have l3 : a < c:=UInt8.lt_trans l1 l2
    rw [if_neg (fun e=>by rw [e] at l3;exact UInt8.lt_irrefl _ l3),if_pos l3]
    omega
/-- the order of entries: the newest first, of one time rising by id. -/
def ordE (a b : En) : Int:=if a.at_ = b.at_ then cmpB a.id b.id else b.at_ - a.at_
theorem ordE_trans (a b c : En) (h1 : ordE a b < 0) (h2 : ordE b c < 0) : ordE a c < 0:=by
 unfold ordE at *
 by_cases e1 : a.at_ = b.at_
 ·rw [if_pos e1] at h1
  by_cases e2 : b.at_ = c.at_
  ·rw [if_pos e2] at h2
   rw [if_pos (e1.trans e2)]
   exact cmpB_trans _ _ _ h1 h2
  ·rw [if_neg e2] at h2
   rw [if_neg (fun e=>e2 (e1.symm.trans e))]
   omega
 ·rw [if_neg e1] at h1
  by_cases e2 : b.at_ = c.at_
  ·rw [if_pos e2] at h2
   rw [if_neg (fun e=>e1 (e.trans e2.symm))]
   omega
  ·rw [if_neg e2] at h2
   rw [if_neg (by omega)]
   omega
end Fd

/- The plain law of shelves: a right shelf stays right, whatever comes, is marked, or is dropped. No program in sight. -/
namespace Fd
/-- what is wrong with entries, behind some. -/
def checkEs : List En→List En→Int
 | _,[]=>0
 | seen,x :: r =>
  if checkEn x ≠ 0 then checkEn x
  else if (seen.any fun y=>y.id == x.id) = true then 6
  else match seen.getLast? with
   | none=>checkEs (seen++[x]) r
   | some y=>if 0≤ordE y x then 4 else checkEs (seen++[x]) r
/-- what is wrong with ids that were read. -/
def checkRd : Option Bs→List Bs→Int
 | _,[]=>0
 | p,s :: r=>if s = [] then 1 else if 60 < s.length then 2 else match p with
  | none=>checkRd (some s) r
  | some q=>if cmpB s q≤0 then 4 else checkRd (some s) r
theorem checkRd_cons (p : Option Bs) (s : Bs) (r : List Bs) : checkRd p (s :: r) = if s = [] then 1 else if 60 < s.length then 2 else match p with
  | none=>checkRd (some s) r
  | some q=>if cmpB s q≤0 then 4 else checkRd (some s) r:=by cases p <;> rfl
structure Sh where
 es : List En
 rd : List Bs
 deriving DecidableEq
def checkSh (s : Sh) : Int:=if 20 < s.es.length ∨ 40 < s.rd.length then 2 else if checkEs [] s.es ≠ 0 then checkEs [] s.es else checkRd none s.rd
def RightE (l : List En) : Prop:=(∀ x ∈ l,checkEn x = 0)∧l.Pairwise (fun a b=>a.id ≠ b.id)∧l.Pairwise (fun a b=>ordE a b < 0)
def RightR (l : List Bs) : Prop:=(∀ s ∈ l,s ≠ []∧s.length≤60)∧l.Pairwise (fun a b=>cmpB a b < 0)
def RightSh (s : Sh) : Prop:=s.es.length≤20∧s.rd.length≤40∧RightE s.es∧RightR s.rd
theorem RightE.nil : RightE []:=⟨fun _ h=>(by cases h),List.Pairwise.nil,List.Pairwise.nil⟩
theorem pw_last {α : Type _} {R : α→α→Prop} (l : List α) (x : α) (h : l.Pairwise R) (hx : ∀ y ∈ l,R y x) : (l++[x]).Pairwise R:=by
 rw [List.pairwise_append]
 exact ⟨h,List.pairwise_singleton _ _,fun a ha b hb=>by rw [List.mem_singleton.1 hb];exact hx a ha⟩
theorem last_all (l : List En) (x y : En) (h : l.Pairwise (fun a b=>ordE a b < 0)) (hy : l.getLast? = some y) (hyx : ordE y x < 0) : ∀ z ∈ l,ordE z x < 0:=by
 intro z hz
 have hne : l ≠ []:=by rintro rfl;cases hz
 rw [List.getLast?_eq_some_getLast hne] at hy
 injection hy with hy
 have e : l = l.dropLast++[y]:=by rw [← hy];exact (List.dropLast_concat_getLast hne).symm
 rw [e] at h hz
 rcases List.mem_append.1 hz with q | q
 ·have:=(List.pairwise_append.1 h).2.2 z q y (List.mem_singleton.2 rfl)
  exact ordE_trans _ _ _ this hyx
 ·rw [List.mem_singleton.1 q];exact hyx
theorem checkEs_right : ∀ (l seen : List En),RightE seen→checkEs seen l = 0→RightE (seen++l)
 | [],seen,h,_=>by rw [List.append_nil];exact h
 | x :: r,seen,h,hc=>by
  rw [checkEs] at hc
  by_cases h1 : checkEn x ≠ 0
  ·rw [if_pos h1] at hc;exact absurd hc h1
  rw [if_neg h1] at hc
  have h1 : checkEn x = 0:=by omega
  by_cases h2 : (seen.any fun y=>y.id == x.id) = true
  ·rw [if_pos h2] at hc;cases hc
  rw [if_neg h2] at hc
  have hid : ∀ y ∈ seen,y.id ≠ x.id:=fun y hy e=>h2 (by rw [List.any_eq_true];exact ⟨y,hy,by rw [e];exact beq_self_eq_true _⟩)
  have step : (∀ y ∈ seen,ordE y x < 0)→checkEs (seen++[x]) r = 0→RightE (seen++x :: r):=fun ho hcc=>by
   have hr : RightE (seen++[x]):=⟨fun y hy=>by
    rcases List.mem_append.1 hy with q | q
    ·exact h.1 y q
    ·rw [List.mem_singleton.1 q];exact h1,pw_last _ _ h.2.1 hid,pw_last _ _ h.2.2 ho⟩
   have:=checkEs_right r (seen++[x]) hr hcc
   rw [List.append_assoc] at this
   exact this
  cases hl : seen.getLast? with
  | none =>
   rw [hl] at hc
   have hs : seen = []:=List.getLast?_eq_none_iff.1 hl
   exact step (fun y hy=>by rw [hs] at hy;cases hy) hc
  | some y =>
   rw [hl] at hc
   simp only at hc
   by_cases h3 : 0≤ordE y x
   ·rw [if_pos h3] at hc;cases hc
   rw [if_neg h3] at hc
   exact step (last_all seen x y h.2.2 hl (by omega)) hc
theorem right_checkEs : ∀ (l seen : List En),RightE (seen++l)→checkEs seen l = 0
 | [],seen,_=>rfl
 | x :: r,seen,h=>by
  have hx : x ∈ seen++x :: r:=List.mem_append.2 (.inr (List.mem_cons_self ..))
  have hid:=(List.pairwise_append.1 h.2.1).2.2
  have ho:=(List.pairwise_append.1 h.2.2).2.2
  have hr : RightE ((seen++[x])++r):=by rw [List.append_assoc];exact h
  rw [checkEs,if_neg (by rw [h.1 x hx];simp),if_neg]
  ·cases hl : seen.getLast? with
   | none=>exact right_checkEs r _ hr
   | some y =>
    simp only
    have hy : y ∈ seen:=List.mem_of_getLast? hl
    have:=ho y hy x (List.mem_cons_self ..)
    rw [if_neg (by omega)]
    exact right_checkEs r _ hr
  ·intro q
   rw [List.any_eq_true] at q
   obtain ⟨y,hy,e⟩:=q
   exact hid y hy x (List.mem_cons_self ..) (beq_iff_eq.1 e)
theorem checkRd_right : ∀ (l : List Bs) (p : Option Bs),checkRd p l = 0→RightR l∧∀ q,p = some q→∀ s ∈ l,cmpB q s < 0
 | [],p,_=>⟨⟨fun _ h=>(by cases h),List.Pairwise.nil⟩,fun _ _ _ h=>(by cases h)⟩
 | s :: r,p,h=>by
  rw [checkRd_cons] at h
  by_cases h1 : s = []
  ·rw [if_pos h1] at h;cases h
  rw [if_neg h1] at h
  by_cases h2 : 60 < s.length
  ·rw [if_pos h2] at h;cases h
  rw [if_neg h2] at h
  have key : checkRd (some s) r = 0→RightR (s :: r):=fun hh=>by
   obtain ⟨a,b⟩:=checkRd_right r (some s) hh
   exact ⟨fun x hx=>by
    rcases List.mem_cons.1 hx with q | q
    ·rw [q];exact ⟨h1,by omega⟩
    ·exact a.1 x q,List.pairwise_cons.2 ⟨fun x hx=>b s rfl x hx,a.2⟩⟩
  cases p with
  | none=>exact ⟨key h,fun q e=>by cases e⟩
  | some q =>
   simp only at h
   by_cases h3 : cmpB s q≤0
   ·rw [if_pos h3] at h;cases h
   rw [if_neg h3] at h
   have hqs : cmpB q s < 0:=by have:=cmpB_anti q s;omega
   refine ⟨key h,fun q' e x hx=>?_⟩
   injection e with e
   subst e
   rcases List.mem_cons.1 hx with q2 | q2
   ·rw [q2];exact hqs
   ·exact cmpB_trans _ _ _ hqs ((checkRd_right r (some s) h).2 s rfl x q2)
theorem right_checkRd : ∀ (l : List Bs) (p : Option Bs),RightR l→(∀ q,p = some q→∀ s ∈ l,cmpB q s < 0)→checkRd p l = 0
 | [],p,_,_=>rfl
 | s :: r,p,h,hp=>by
  obtain ⟨h1,h2⟩:=h.1 s (List.mem_cons_self ..)
  obtain ⟨h3,h4⟩:=List.pairwise_cons.1 h.2
  have hr : checkRd (some s) r = 0:=right_checkRd r (some s) ⟨fun x hx=>h.1 x (List.mem_cons_of_mem _ hx),h4⟩ (fun q e x hx=>by injection e with e;subst e;exact h3 x hx)
  rw [checkRd_cons,if_neg h1,if_neg (by omega)]
  cases p with
  | none=>exact hr
  | some q =>
   simp only
   have:=hp q rfl s (List.mem_cons_self ..)
   have h5:=cmpB_anti q s
   rw [if_neg (by omega)]
   exact hr
theorem checkSh_iff (s : Sh) : checkSh s = 0 ↔ RightSh s:=by
 unfold checkSh RightSh
 constructor
 ·intro h
  by_cases h1 : 20 < s.es.length ∨ 40 < s.rd.length
  ·rw [if_pos h1] at h;cases h
  rw [if_neg h1] at h
  by_cases h2 : checkEs [] s.es ≠ 0
  ·rw [if_pos h2] at h;exact absurd h h2
  rw [if_neg h2] at h
  have:=checkEs_right s.es [] RightE.nil (by omega)
  rw [List.nil_append] at this
  exact ⟨by omega,by omega,this,(checkRd_right s.rd none h).1⟩
 ·rintro ⟨h1,h2,h3,h4⟩
  have e:=right_checkEs s.es [] (by rw [List.nil_append];exact h3)
  rw [if_neg (by omega),e,if_neg (by simp)]
  exact right_checkRd s.rd none h4 (fun q e=>by cases e)
theorem RightE.sub {l m : List En} (h : RightE l) (hs : m.Sublist l) : RightE m:=⟨fun x hx=>h.1 x (hs.subset hx),h.2.1.sublist hs,h.2.2.sublist hs⟩
theorem RightR.sub {l m : List Bs} (h : RightR l) (hs : m.Sublist l) : RightR m:=⟨fun x hx=>h.1 x (hs.subset hx),h.2.sublist hs⟩
end Fd

/- The plain law of reports: words are told; a page of a right shelf is clean. No program in sight. -/
namespace Fd
def apartB (n : Bs) : Bool:=[[112],[108,105],[98,108,111,99,107,113,117,111,116,101],[117,108],[111,108]].contains n
/-- all texts in nodes, with blanks where elements stand apart. -/
def tellF : Mk.Fo→Bs
 | .nil=>[]
 | .node n _ t k r=>t++((if Mk.emptyB n || apartB n then [32] else [])++(tellF k++((if apartB n then [32] else [])++tellF r)))
/-- what stands between white bytes: f is what has come of the last one. -/
def fieldsN : Bs→Bs→List Bs
 | f,[]=>if f = [] then [] else [f]
 | f,c :: t=>if Mk.white c then (if f = [] then fieldsN [] t else f :: fieldsN [] t) else fieldsN (f++[c]) t
def fieldsB (s : Bs) : List Bs:=fieldsN [] s
def joinB : List Bs→Bs
 | []=>[]
 | [x]=>x
 | x :: y :: l=>x++([32]++joinB (y :: l))
/-- words of markup. -/
def toldB (s : Bs) : Bs:=joinB (fieldsB (tellF (Mk.build (Mk.toks s))))
/-- T tells words (toldB, or what a walk shows of find.Told: a page is clean whatever T tells). -/
def lnOf (T : Bs→Bs) (x : En) : Mk.Ln:=⟨x.ti,x.li,if x.at_ = 0 then [] else [32]++dateB x.at_,T x.ht⟩
def lineE (T : Bs→Bs) (x : En) : Bs:=Mk.lineB (lnOf T x)
def pageS (T : Bs→Bs) (s : Sh) : Bs:=[60,117,108,62]++s.es.flatMap (lineE T)++[60,47,117,108,62]
theorem pageS_eq (T : Bs→Bs) (s : Sh) : pageS T s = Mk.pageB (s.es.map (lnOf T)):=by
 unfold pageS Mk.pageB
 rw [List.flatMap_map];rfl
theorem en_link {x : En} (h : checkEn x = 0) : x.li = [] ∨ Mk.goodLink x.li = true:=by
 unfold checkEn at h
 by_cases q1 : x.id = []
 ·rw [if_pos q1] at h;cases h
 rw [if_neg q1] at h
 by_cases q2 : 60 < x.id.length ∨ 3000 < x.ti.length ∨ 3000 < x.li.length ∨ 3000 < x.ht.length
 ·rw [if_pos q2] at h;cases h
 rw [if_neg q2] at h
 by_cases q3 : x.at_ < 0 ∨ 4102444799 < x.at_
 ·rw [if_pos q3] at h;cases h
 rw [if_neg q3] at h
 by_cases q4 : (x.li ≠ []∧Mg.isSafe x.li = false) ∨ staysB x.ht = false
 ·rw [if_pos q4] at h;cases h
 by_cases hl : x.li = []
 ·exact .inl hl
 ·right
  unfold Mk.goodLink
  rw [Bool.and_eq_true]
  refine ⟨?_,decide_eq_true (by omega)⟩
  cases hs : Mg.isSafe x.li with
  | true=>rfl
  | false=>exact absurd (.inl ⟨hl,hs⟩) q4
/-- A PAGE IS CLEAN. -/
theorem page_clean (T : Bs→Bs) (s : Sh) (h : checkSh s = 0) : Mk.html [] (pageS T s) = pageS T s:=by
 obtain ⟨_,_,hr,_⟩:=(checkSh_iff s).1 h
 rw [pageS_eq]
 refine Mk.html_page _ ?_ ?_
 ·intro x hx
  obtain ⟨y,hy,rfl⟩:=List.mem_map.1 hx
  show Mk.put (if y.at_ = 0 then [] else [32]++dateB y.at_) = (if y.at_ = 0 then [] else [32]++dateB y.at_)
  split
  ·rfl
  ·rw [Mk.put_append,put_date];rfl
 ·intro x hx
  obtain ⟨y,hy,rfl⟩:=List.mem_map.1 hx
  exact en_link (hr.1 y hy)
theorem begun_line2 : checkEn ⟨[105],[97,60,98],[104,116,116,112,58,47,47,104],1,[60,98,62,99,60,47,98,62]⟩ = 0∧lineE toldB ⟨[105],[97,60,98],[104,116,116,112,58,47,47,104],1,[60,98,62,99,60,47,98,62]⟩ = [60,108,105,62,60,97,32,104,114,101,102,61,34,104,116,116,112,58,47,47,104,34,62,97,38,108,116,59,98,60,47,97,62,32,49,57,55,48,45,48,49,45,48,49,84,48,48,58,48,48,58,48,49,90,60,112,62,99,60,47,112,62,60,47,108,105,62]:=by decide +kernel
end Fd
