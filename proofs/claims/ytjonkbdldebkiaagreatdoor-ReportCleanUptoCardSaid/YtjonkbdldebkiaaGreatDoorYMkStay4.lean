/- Bounds: at a text of at most 3000 bytes all that cleaning makes is small. No program in sight. -/
import Derived.Test.YtjonkbdldebkiaaGreatDoorYMkHtml
import Derived.Test.YtjonkbdldebkiaaGreatDoorYMkStay3
set_option linter.unusedVariables false
set_option linter.unusedSimpArgs false
namespace Mk
open Bld
theorem sign_len (s : Bs) : (sign s).1.length≤4:=by
 unfold sign
 split
 ·simp
 ·split
  ·simp
  ·split
   ·exact utf8_len _
   ·simp
theorem takeN_len : ∀ (n : Nat) (s : Bs),(takeN n s).1.length≤4 * s.length
 | 0,s=>by unfold takeN;exact Nat.zero_le _
 | n + 1,[]=>by unfold takeN;exact Nat.zero_le _
 | n + 1,c :: t=>by
  unfold takeN
  split
  ·have h1:=sign_len (c :: t)
   have h2:=takeN_len n ((c :: t).drop (max 1 (sign (c :: t)).2.1))
   rw [List.length_drop] at h2
   simp only [List.length_append]
   simp only [List.length_cons] at h2 ⊢
   omega
  ·have h2:=takeN_len n t
   simp only [List.length_cons]
   omega
theorem take_len (s : Bs) : (take s).1.length≤4 * s.length:=takeN_len _ s
theorem tw_dw (p : UInt8→Bool) (l : Bs) : (l.takeWhile p).length + (l.dropWhile p).length = l.length:=by
 rw [← List.length_append,List.takeWhile_append_dropWhile]
theorem valueOf_len {r v r' : Bs} (h : valueOf r = some (v,r')) : v.length + r'.length≤r.length:=by
 unfold valueOf at h
 split at h
 ·injection h with h
  injection h with h1 h2
  rw [← h1,← h2]
  exact Nat.zero_le _
 ·rename_i q t heq
  have hl:=tw_dw white r
  rw [heq,List.length_cons] at hl
  split at h
  ·split at h
   ·cases h
   ·rename_i _ _ y u heq2
    injection h with h
    injection h with h1 h2
    have hl2:=tw_dw (fun x=>x != q) t
    rw [heq2,List.length_cons] at hl2
    rw [← h1,← h2]
    omega
  ·injection h with h
   injection h with h1 h2
   have hl2:=tw_dw (fun c=>!white c && c != 62) (q :: t)
   rw [h1,h2,List.length_cons] at hl2
   omega
theorem atB_app1 (l : List At) (a : At) : Fo.atB (l++[a]) = Fo.atB l + (1 + a.n.length + a.v.length):=by simp [Fo.atB]
theorem attrsN_bulk : ∀ (n : Nat) (r : Bs) (out l : List At) (rest : Bs),attrsN n r out = some (l,rest)→Fo.atB l + 8 * rest.length≤Fo.atB out + 8 * r.length
 | 0,_,_,_,_,h=>by cases h
 | n + 1,r,out,l,rest,h=>by
  unfold attrsN at h
  split at h
  ·cases h
  ·rename_i c t heq
   have hl:=tw_dw (fun c=>white c || c == 47) r
   rw [heq,List.length_cons] at hl
   split at h
   ·injection h with h
    injection h with h1 h2
    rw [← h1,← h2]
    omega
   ·simp only at h
    split at h
    ·cases h
    ·rename_i v r4 hm
     have ih:=attrsN_bulk n r4 _ l rest h
     have l2:=tw_dw atStop t
     have l3:=tw_dw white (t.dropWhile atStop)
     have lf : (Mg.fold (c :: t.takeWhile atStop)).length = (t.takeWhile atStop).length + 1:=by unfold Mg.fold;simp
     have lv : v.length + 4 * r4.length≤4 * ((t.dropWhile atStop).dropWhile white).length:=by
      generalize (t.dropWhile atStop).dropWhile white = r3 at hm
      split at hm
      ·cases hv : valueOf r3.tail with
       | none=>rw [hv] at hm;cases hm
       | some x =>
        rw [hv] at hm
        injection hm with hm
        injection hm with m1 m2
        obtain ⟨x1,x2⟩:=x
        have k1:=valueOf_len hv
        have k2:=take_len x1
        have k3 : r3.tail.length≤r3.length:=by rw [List.length_tail];omega
        simp only at m1 m2
        rw [← m1,← m2]
        omega
      ·injection hm with hm
       injection hm with m1 m2
       rw [← m1,← m2]
       simp
     have ho : Fo.atB (if (isName (Mg.fold (c :: t.takeWhile atStop)) && !hasAt out (Mg.fold (c :: t.takeWhile atStop))) = true then out++[⟨Mg.fold (c :: t.takeWhile atStop),v⟩] else out)≤Fo.atB out + (1 + (Mg.fold (c :: t.takeWhile atStop)).length + v.length):=by
      split
      ·rw [atB_app1]
       exact Nat.le_refl _
      ·omega
     omega
theorem behind_len (p : Bs) : ∀ (r rest : Bs),behind p r = some rest→rest.length≤r.length
 | [],rest,h=>by
  unfold behind at h
  split at h
  ·injection h with h
   rw [← h]
   exact Nat.le_refl _
  ·cases h
 | c :: t,rest,h=>by
  unfold behind at h
  split at h
  ·injection h with h
   rw [← h,List.length_drop]
   omega
  ·have:=behind_len p t rest h
   rw [List.length_cons]
   omega
theorem fold_len (l : Bs) : (Mg.fold l).length = l.length:=by unfold Mg.fold;simp
theorem hereAt_bulk (c : UInt8) (tl : Bs) : (∀ rest,hereAt (c :: tl) = .gone rest→rest.length≤tl.length + 1)∧∀ k rest,hereAt (c :: tl) = .tag k rest→2 + k.name.length + k.text.length + Fo.atB k.ats + 8 * rest.length≤8 * (tl.length + 1):=by
 have hp : ∀ p r,r.length≤tl.length + 1→(∀ rest,passAt p r = .gone rest→rest.length≤tl.length + 1)∧∀ k rest,passAt p r = .tag k rest→2 + k.name.length + k.text.length + Fo.atB k.ats + 8 * rest.length≤8 * (tl.length + 1):=by
  intro p r hr
  unfold passAt
  split
  ·exact ⟨fun _ h=>(by cases h),fun _ _ h=>by cases h⟩
  ·rename_i rest' hb
   refine ⟨fun rest h=>?_,fun _ _ h=>by cases h⟩
   injection h with h
   have:=behind_len p _ _ hb
   rw [← h]
   omega
 unfold hereAt
 split
 ·unfold openAt
  rw [List.tail_cons]
  have hl:=tw_dw tagStop tl
  have hf:=fold_len (tl.takeWhile tagStop)
  simp only
  split
  ·exact ⟨fun _ h=>(by cases h),fun _ _ h=>by cases h⟩
  ·rename_i l rest' ha
   have hb:=attrsN_bulk _ _ [] l rest' ha
   have e0 : Fo.atB [] = 0:=rfl
   split
   ·refine ⟨fun _ h=>(by cases h),fun k rest h=>?_⟩
    injection h with h1 h2
    rw [← h1,← h2]
    simp only [List.length_nil]
    omega
   ·refine ⟨fun rest h=>?_,fun _ _ h=>by cases h⟩
    injection h with h
    rw [← h]
    omega
 ·split
  ·unfold closeAt
   have hl:=tw_dw tagStop ((c :: tl).drop 2)
   have hd : ((c :: tl).drop 2).length≤tl.length:=by rw [List.length_drop,List.length_cons];omega
   have hf:=fold_len (((c :: tl).drop 2).takeWhile tagStop)
   simp only
   split
   ·exact ⟨fun _ h=>(by cases h),fun _ _ h=>by cases h⟩
   ·rename_i rest' hb
    have hb2:=behind_len _ _ _ hb
    split
    ·refine ⟨fun _ h=>(by cases h),fun k rest h=>?_⟩
     injection h with h1 h2
     have e0 : Fo.atB [] = 0:=rfl
     rw [← h1,← h2]
     simp only [List.length_nil]
     omega
    ·refine ⟨fun rest h=>?_,fun _ _ h=>by cases h⟩
     injection h with h
     rw [← h]
     omega
  ·split
   ·exact hp _ _ (by rw [List.length_drop,List.length_cons];omega)
   ·split
    ·exact hp _ _ (by rw [List.length_cons];omega)
    ·exact ⟨fun _ h=>(by cases h),fun _ _ h=>by cases h⟩
theorem tokB_app (l m : List Tok) : tokB (l++m) = tokB l + tokB m:=by simp [tokB]
theorem flush_bulk (text : Bs) (out : List Tok) : tokB (flush text out)≤tokB out + 8 * text.length:=by
 have h:=take_len text
 unfold flush
 simp only
 split
 ·omega
 ·rename_i hn
  have : (take text).1.length ≠ 0:=fun e=>hn (List.eq_nil_of_length_eq_zero e)
  have e0 : Fo.atB [] = 0:=rfl
  have e1 : tokB [] = 0:=rfl
  rw [tokB_app,tokB_cons,e1]
  simp only [List.length_nil,e0]
  omega
theorem toksN_bulk : ∀ (n : Nat) (r text : Bs) (out : List Tok),tokB (toksN n r text out)≤tokB out + 8 * (text.length + r.length)
 | 0,r,text,out=>by
  have e : toksN 0 r text out = flush text out:=by unfold toksN;rfl
  have:=flush_bulk text out
  rw [e]
  omega
 | n + 1,[],text,out=>by
  have e : toksN (n + 1) [] text out = flush text out:=by unfold toksN;rfl
  have:=flush_bulk text out
  rw [e]
  omega
 | n + 1,c :: t,text,out=>by
  unfold toksN
  rw [List.length_cons]
  split
  ·obtain ⟨b1,b2⟩:=hereAt_bulk c t
   split
   ·have:=toksN_bulk n t (text++[60]) out
    rw [List.length_append,List.length_singleton] at this
    omega
   ·have:=flush_bulk (text++c :: t) out
    rw [List.length_append,List.length_cons] at this
    omega
   ·rename_i rest hh
    have:=toksN_bulk n rest text out
    have:=b1 rest hh
    omega
   ·rename_i k rest hh
    have h1:=toksN_bulk n rest [] (flush text out++[k])
    have h2:=b2 k rest hh
    have h3:=flush_bulk text out
    have e1 : tokB [] = 0:=rfl
    rw [tokB_app,tokB_cons,e1,List.length_nil] at h1
    omega
  ·have:=toksN_bulk n t (text++[c]) out
   rw [List.length_append,List.length_singleton] at this
   omega
theorem toks_bulk (s : Bs) : tokB (toks s)≤8 * s.length:=by
 have:=toksN_bulk s.length s [] []
 have e1 : tokB [] = 0:=rfl
 rw [e1,List.length_nil] at this
 show tokB (toksN s.length s [] [])≤_
 omega
theorem fold_bulk : ∀ (l : List Tok) (b : Bld),Bld.bulk (l.foldl token b)≤Bld.bulk b + tokB l
 | [],b=>by show Bld.bulk b≤_;omega
 | t :: l,b=>by
  have h1:=fold_bulk l (b.token t)
  have h2:=token_bulk b t
  rw [List.foldl_cons,tokB_cons]
  omega
theorem build_bulk (l : List Tok) : (build l).bulk≤tokB l:=by
 have h1:=fold_bulk l ⟨.nil,[]⟩
 have h2:=close_bulk (l.foldl token ⟨.nil,[]⟩) 0
 have h3:=close_zero (l.foldl token ⟨.nil,[]⟩)
 have h4:=fos_zero _ h3
 have h5 : Bld.bulk ((l.foldl token ⟨.nil,[]⟩).close 0) = (build l).bulk:=by
  unfold Bld.bulk
  rw [h3,h4,foB_one]
  unfold build
  simp [opB]
 have h6 : Bld.bulk ⟨.nil,[]⟩ = 0:=rfl
 omega
theorem put_len (t : Bs) : (put t).length≤6 * t.length:=by
 induction t with
 | nil=>exact Nat.zero_le _
 | cons c t ih =>
  have h : (esc c).length≤6:=by
   unfold esc
   repeat' split
   all_goals simp
  have e : put (c :: t) = esc c++put t:=rfl
  rw [e,List.length_append,List.length_cons]
  omega
theorem written_bulk : ∀ l : List At,(written l).length≤6 * Fo.atB l
 | []=>Nat.zero_le _
 | a :: l=>by
  have h1:=written_bulk l
  have h2:=put_len a.v
  have e : Fo.atB (a :: l) = 1 + a.n.length + a.v.length + Fo.atB l:=by simp [Fo.atB]
  rw [written_cons,e]
  simp only [List.length_cons,List.length_append]
  omega
theorem bytes_app (l m : List Tok) : bytes (l++m) = bytes l++bytes m:=List.flatMap_append ..
theorem bytes_bulk : ∀ f : Fo,(bytes (flat f)).length≤16 * f.bulk:=by
 intro f
 induction f with
 | nil=>exact Nat.zero_le _
 | node n a t k r ihk ihr =>
  have e : Fo.bulk (.node n a t k r) = 1 + n.length + t.length + Fo.atB a + Fo.bulk k + Fo.bulk r:=rfl
  rw [e]
  by_cases hn : n = []
  ·have e2 : flat (.node n a t k r) = [⟨1,[],[],t⟩]++flat r:=by rw [flat,if_pos hn];rfl
   have h1:=put_len t
   have e3 : bytes [(⟨1,[],[],t⟩ : Tok)] = put t:=by
    show tokBytes ⟨1,[],[],t⟩++[] = _
    rw [List.append_nil]
    rfl
   rw [e2,bytes_app,e3,List.length_append]
   omega
  ·have e2 : flat (.node n a t k r) = [⟨2,n,a,[]⟩]++((if emptyB n = true then [] else flat k++[⟨3,n,[],[]⟩])++flat r):=by rw [flat,if_neg hn];rfl
   have h1:=written_bulk a
   have e3 : (bytes [(⟨2,n,a,[]⟩ : Tok)]).length = 2 + n.length + (written a).length:=by
    show (([60]++n++written a++[62])++[]).length = _
    simp
    omega
   have e4 : (bytes [(⟨3,n,[],[]⟩ : Tok)]).length = 3 + n.length:=by
    show (([60,47]++n++[62])++[]).length = _
    simp
    omega
   rw [e2,bytes_app,bytes_app,List.length_append,List.length_append,e3]
   split
   ·have : (bytes []).length = 0:=rfl
    omega
   ·rw [bytes_app,List.length_append,e4]
    omega
theorem flat_mem : ∀ (f : Fo) (t : Tok),t ∈ flat f→t.text.length≤f.bulk∧∀ a ∈ t.ats,a.v.length≤f.bulk:=by
 intro f
 induction f with
 | nil=>intro t h;cases h
 | node n a t k r ihk ihr =>
  intro x h
  have e : Fo.bulk (.node n a t k r) = 1 + n.length + t.length + Fo.atB a + Fo.bulk k + Fo.bulk r:=rfl
  rw [e]
  have hr : x ∈ flat r→x.text.length≤1 + n.length + t.length + Fo.atB a + Fo.bulk k + Fo.bulk r∧∀ b ∈ x.ats,b.v.length≤1 + n.length + t.length + Fo.atB a + Fo.bulk k + Fo.bulk r:=fun q=>by
   obtain ⟨q1,q2⟩:=ihr x q
   exact ⟨by omega,fun b hb=>by have:=q2 b hb;omega⟩
  by_cases hn : n = []
  ·rw [flat,if_pos hn] at h
   rcases List.mem_cons.1 h with q | q
   ·rw [q]
    exact ⟨by simp only;omega,fun b hb=>by cases hb⟩
   ·exact hr q
  ·rw [flat,if_neg hn] at h
   rcases List.mem_cons.1 h with q | q
   ·rw [q]
    refine ⟨by simp only [List.length_nil];omega,fun b hb=>?_⟩
    have h9 : 1 + b.n.length + b.v.length≤Fo.atB a:=atB_mem hb
    omega
   ·rcases List.mem_append.1 q with q | q
    ·split at q
     ·cases q
     ·rcases List.mem_append.1 q with q | q
      ·obtain ⟨q1,q2⟩:=ihk x q
       exact ⟨by omega,fun b hb=>by have:=q2 b hb;omega⟩
      ·rw [List.mem_singleton.1 q]
       exact ⟨by simp only [List.length_nil];omega,fun b hb=>by cases hb⟩
    ·exact hr q
theorem clean_bulk (base : Bs) (f : Fo) : (clean base f).bulk≤3001 * f.bulk:=by
 have:=(cleanOn_bulk base f .nil).1
 have e : Fo.bulk .nil = 0:=rfl
 unfold clean
 omega
theorem fits (base s : Bs) (hs : s.length≤3000) : Fits base s:=by
 have h1:=toks_bulk s
 have h2:=build_bulk (toks s)
 have h3:=clean_bulk base (build (toks s))
 have h4:=bytes_bulk (clean base (build (toks s)))
 refine ⟨hs,by omega,by omega,by omega,?_⟩
 show (bytes (flat (clean base (build (toks s))))).length≤_
 omega
end Mk
