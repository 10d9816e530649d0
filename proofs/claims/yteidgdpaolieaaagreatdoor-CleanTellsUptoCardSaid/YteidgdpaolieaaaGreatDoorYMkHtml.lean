/- Contracts of the program's Markup and Html. Conditions on what is built; Told answers at every text and value that stays. -/
import Derived.Test.YteidgdpaolieaaaGreatDoorYMkByt1
import Derived.Test.YteidgdpaolieaaaGreatDoorYMkFlat1
import Derived.Test.YteidgdpaolieaaaGreatDoorYMkClean5
import Derived.Test.YteidgdpaolieaaaGreatDoorYMkTok8
import Derived.Test.YteidgdpaolieaaaGreatDoorYRfK
import Derived.Test.YteidgdpaolieaaaGreatDoorYRfBo
import Derived.Test.YteidgdpaolieaaaGreatDoorYUrlPlain
import Derived.Test.YteidgdpaolieaaaGreatDoorYMkTok2
set_option linter.unusedVariables false
set_option linter.unusedSimpArgs false
namespace Mk
/-- markup by its parts. -/
structure Fits (base s : Bs) : Prop where
 len : s.length≤3000
 toks : Bld.tokB (toks s)≤549755813000
 built : (build (Mk.toks s)).bulk≤1048576
 out : (clean base (build (Mk.toks s))).bulk≤549755813888
 bytes : (html base s).length≤1099511627776
end Mk
namespace Go.Proofs.YteidgdpaolieaaaGreatDoor
open Go.RowKit
set_option maxHeartbeats 4000000 in
set_option maxRecDepth 100000 in
theorem cl_Markup (base s : List UInt8) (w : World) (hg : Gl w) (hf : Mk.Fits base s) (hT : ∀ t ∈ Mk.flat (Mk.clean base (Mk.build (Mk.toks s))),TokTells t) :
  Calls Tryz.prog 28 #[.string (st base),.string (st s)] w fun e w'=>e = .returned (.string (st (Mk.html base s)))∧Below w.heap.size w w':=by
 have HA:=Lib.hid (mk_All (st s) w hg (by have:=hf.len;rw [st_size];omega))
 have HF:=Lib.hid hf
 have HT:=Lib.hid hT
 have HE : Hid (Mk.bytes (Mk.flat (Mk.clean base (Mk.build (Mk.toks s)))) = Mk.html base s):=rfl
 clear hf hT
 go_enter Tryz.func28,Tryz.ntmps28
 go_wp2_with fail
 refine HA.out.mono ?_
 rintro e w1 ⟨v1,rfl,hv1,hb1⟩
 have B1:=Lib.hid hb1
 have HO:=Lib.hid (tr_Of (Mk.toks s) v1 _ w1 hv1 (fun b q=>q.2) HF.out.toks)
 clear hv1 hb1 HA
 go_wp2_with fail
 refine HO.out.mono ?_
 rintro e w2 ⟨v2,rfl,hv2,hb2⟩
 have B2:=Lib.hid (B1.out.trans (hb2.mono B1.out.size))
 have HC:=Lib.hid (cl_Of base (Mk.build (Mk.toks s)) v2 _ w2 (Nat.le_trans HF.out.built (by decide)) hv2 (fun b q=>q.2))
 clear hv2 HO
 go_wp2_with fail
 refine HC.out.mono ?_
 rintro e w3 ⟨v3,rfl,hv3,hb3⟩
 have B3:=Lib.hid (B2.out.trans (hb3.mono B2.out.size))
 have HK:=Lib.hid (tr_Tokens ((Mk.clean base (Mk.build (Mk.toks s))).bulk + 1) (Mk.clean base (Mk.build (Mk.toks s))) (Nat.lt_succ_self _) HF.out.out v3 _ w3 hv3 (fun b q=>q.elim (fun q=>Nat.lt_of_lt_of_le q.2 hb3.size) (fun q=>q.2)))
 clear hv3 hb3 hb2 HC
 go_wp2_with fail
 refine HK.out.mono ?_
 rintro e w4 ⟨v4,xs4,rfl,hv4,_,hb4⟩
 have B4:=Lib.hid (B3.out.trans (hb4.mono B3.out.size))
 have HB:=Lib.hid (tk_Bytes (Mk.flat (Mk.clean base (Mk.build (Mk.toks s)))) v4 _ w4 hv4.toksV (fun b q=>q.2) HT.out HF.out.bytes)
 clear hv4 hb4 HK
 go_wp2_with fail
 refine HB.out.mono ?_
 rintro e w5 ⟨rfl,hb5⟩
 have B5:=Lib.hid (B4.out.trans (hb5.mono B4.out.size))
 clear hb5 HB
 go_wp2_with fail
 go_ret
 exact ⟨by rw [← HE.out];rfl,B5.out⟩
set_option maxHeartbeats 4000000 in
set_option maxRecDepth 100000 in
theorem cl_Html (base s : List UInt8) (w : World) (hg : Gl w) (hb : base.length≤3000) (hf : Mk.Fits base s) (hT : ∀ t ∈ Mk.flat (Mk.clean base (Mk.build (Mk.toks s))),TokTells t) :
  Calls Tryz.prog 9 #[.string (st base),.string (st s)] w fun e w'=>e = .returned (.tuple #[.string (st (Mk.html base s)),.int .i64 0])∧Below w.heap.size w w':=by
 have HM:=Lib.hid (cl_Markup base s w hg hf hT)
 have h1 : ¬ 3000 < (st base).size:=by rw [st_size];omega
 have h2 : ¬ 3000 < (st s).size:=by have:=hf.len;rw [st_size];omega
 clear hf hT
 go_enter Tryz.func9,Tryz.ntmps9
 go_wp2_with fail
 refine HM.out.mono ?_
 rintro e w1 ⟨rfl,hb1⟩
 have B1:=Lib.hid hb1
 clear hb1 HM
 go_wp2_with fail
 go_ret2
 exact ⟨rfl,B1.out⟩
end Go.Proofs.YteidgdpaolieaaaGreatDoor

/- The plain law of tokens: what is read is right; what is printed is read as it was. No program in sight. -/
namespace Mk
open Bld
/-! What is read is right. -/
theorem attrsN_ok : ∀ (n : Nat) (r : Bs) (out l : List At) (rest : Bs),checkAts isName [] out = 0→attrsN n r out = some (l,rest)→checkAts isName [] l = 0
 | 0,_,_,_,_,_,h=>by cases h
 | n + 1,r,out,l,rest,ho,h=>by
  unfold attrsN at h
  split at h
  ·cases h
  ·split at h
   ·injection h with h
    injection h with h1 h2
    rw [← h1]
    exact ho
   ·simp only at h
    split at h
    ·cases h
    ·rename_i c t _ _ v r4 _
     refine attrsN_ok n r4 _ l rest ?_ h
     split
     ·rename_i hq
      obtain ⟨q1,q2⟩:=Bool.and_eq_true_iff.1 hq
      have key : ∀ (m seen : List At) (a : At),checkAts isName seen m = 0→isName a.n = true→hasAt (seen++m) a.n = false→checkAts isName seen (m++[a]) = 0:=by
       intro m
       induction m with
       | nil=>intro seen a _ p1 p2;exact (checkAts_cons ..).2 ⟨p1,by simpa using p2,rfl⟩
       | cons b m ih =>
        intro seen a p0 p1 p2
        obtain ⟨b1,b2,b3⟩:=(checkAts_cons ..).1 p0
        exact (checkAts_cons ..).2 ⟨b1,b2,ih (seen++[b]) a b3 p1 (by rw [List.append_assoc];exact p2)⟩
      exact key out [] _ ho q1 (by simpa using q2)
     ·exact ho
theorem flush_ok (text : Bs) (out : List Tok) (h : ∀ t ∈ out,TokOk t) : ∀ t ∈ flush text out,TokOk t:=by
 unfold flush
 simp only
 split
 ·exact h
 ·rename_i hn
  intro t ht
  rcases List.mem_append.1 ht with q | q
  ·exact h t q
  ·rw [List.mem_singleton.1 q]
   exact .inl ⟨rfl,rfl,rfl,hn⟩
theorem hereAt_ok (r : Bs) (t : Tok) (rest : Bs) (h : hereAt r = .tag t rest) : TokOk t:=by
 unfold hereAt at h
 split at h
 ·unfold openAt at h
  simp only at h
  split at h
  ·cases h
  ·rename_i l rest' ha
   split at h
   ·rename_i hn
    injection h with h1 h2
    rw [← h1]
    exact .inr (.inl ⟨rfl,hn,attrsN_ok _ _ [] l rest' rfl ha,rfl⟩)
   ·cases h
 ·split at h
  ·unfold closeAt at h
   simp only at h
   split at h
   ·cases h
   ·split at h
    ·rename_i hn
     injection h with h1 h2
     rw [← h1]
     exact .inr (.inr ⟨rfl,hn,rfl,rfl⟩)
    ·cases h
  ·split at h
   ·unfold passAt at h
    split at h <;> cases h
   ·split at h
    ·unfold passAt at h
     split at h <;> cases h
    ·cases h
theorem toksN_ok : ∀ (n : Nat) (r text : Bs) (out : List Tok),(∀ t ∈ out,TokOk t)→∀ t ∈ toksN n r text out,TokOk t
 | 0,r,text,out,h=>by
  have e : toksN 0 r text out = flush text out:=by unfold toksN;rfl
  rw [e]
  exact flush_ok text out h
 | n + 1,[],text,out,h=>by
  have e : toksN (n + 1) [] text out = flush text out:=by unfold toksN;rfl
  rw [e]
  exact flush_ok text out h
 | n + 1,c :: t,text,out,h=>by
  unfold toksN
  split
  ·split
   ·exact toksN_ok n _ _ out h
   ·exact flush_ok _ out h
   ·exact toksN_ok n _ _ out h
   ·rename_i k rest hk
    refine toksN_ok n _ _ _ (fun x q=>?_)
    rcases List.mem_append.1 q with q | q
    ·exact flush_ok text out h x q
    ·rw [List.mem_singleton.1 q]
     exact hereAt_ok _ k rest hk
  ·exact toksN_ok n _ _ out h
theorem toks_ok (s : Bs) : ∀ t ∈ toks s,TokOk t:=toksN_ok _ _ _ _ (fun _ q=>by cases q)
/-! What is printed is read as it was. -/
theorem written_cons (a : At) (l : List At) : written (a :: l) = 32 :: (a.n++(61 :: 34 :: (put a.v++(34 :: written l)))):=by
 unfold written
 rw [List.flatMap_cons]
 simp
end Mk

/- Bounds: at a text of at most 3000 bytes all that cleaning makes is small. No program in sight. -/
namespace Mk
open Bld
theorem sign_len (s : Bs) : (sign s).1.length≤4:=by
 unfold sign
 split
 ·simp
 ·split
  ·simp
  ·split
   ·exact utf8_len _
   ·simp
theorem takeN_len : ∀ (n : Nat) (s : Bs),(takeN n s).1.length≤4 * s.length
 | 0,s=>by unfold takeN;exact Nat.zero_le _
 | n + 1,[]=>by unfold takeN;exact Nat.zero_le _
 | n + 1,c :: t=>by
  unfold takeN
  split
  ·have h1:=sign_len (c :: t)
   have h2:=takeN_len n ((c :: t).drop (max 1 (sign (c :: t)).2.1))
   rw [List.length_drop] at h2
   simp only [List.length_append]
   simp only [List.length_cons] at h2 ⊢
   omega
  ·have h2:=takeN_len n t
   simp only [List.length_cons]
   omega
theorem take_len (s : Bs) : (take s).1.length≤4 * s.length:=takeN_len _ s
theorem tw_dw (p : UInt8→Bool) (l : Bs) : (l.takeWhile p).length + (l.dropWhile p).length = l.length:=by
 rw [← List.length_append,List.takeWhile_append_dropWhile]
theorem valueOf_len {r v r' : Bs} (h : valueOf r = some (v,r')) : v.length + r'.length≤r.length:=by
 unfold valueOf at h
 split at h
 ·injection h with h
  injection h with h1 h2
  rw [← h1,← h2]
  exact Nat.zero_le _
 ·rename_i q t heq
  have hl:=tw_dw white r
  rw [heq,List.length_cons] at hl
  split at h
  ·split at h
   ·cases h
   ·rename_i _ _ y u heq2
    injection h with h
    injection h with h1 h2
    have hl2:=tw_dw (fun x=>x != q) t
    rw [heq2,List.length_cons] at hl2
    rw [← h1,← h2]
    omega
  ·injection h with h
   injection h with h1 h2
   have hl2:=tw_dw (fun c=>!white c && c != 62) (q :: t)
   rw [h1,h2,List.length_cons] at hl2
   omega
theorem atB_app1 (l : List At) (a : At) : Fo.atB (l++[a]) = Fo.atB l + (1 + a.n.length + a.v.length):=by simp [Fo.atB]
theorem attrsN_bulk : ∀ (n : Nat) (r : Bs) (out l : List At) (rest : Bs),attrsN n r out = some (l,rest)→Fo.atB l + 8 * rest.length≤Fo.atB out + 8 * r.length
 | 0,_,_,_,_,h=>by cases h
 | n + 1,r,out,l,rest,h=>by
  unfold attrsN at h
  split at h
  ·cases h
  ·rename_i c t heq
   have hl:=tw_dw (fun c=>white c || c == 47) r
   rw [heq,List.length_cons] at hl
   split at h
   ·injection h with h
    injection h with h1 h2
    rw [← h1,← h2]
    omega
   ·simp only at h
    split at h
    ·cases h
    ·rename_i v r4 hm
     have ih:=attrsN_bulk n r4 _ l rest h
     have l2:=tw_dw atStop t
     have l3:=tw_dw white (t.dropWhile atStop)
     have lf : (Mg.fold (c :: t.takeWhile atStop)).length = (t.takeWhile atStop).length + 1:=by unfold Mg.fold;simp
     have lv : v.length + 4 * r4.length≤4 * ((t.dropWhile atStop).dropWhile white).length:=by
      generalize (t.dropWhile atStop).dropWhile white = r3 at hm
      split at hm
      ·cases hv : valueOf r3.tail with
       | none=>rw [hv] at hm;cases hm
       | some x =>
        rw [hv] at hm
        injection hm with hm
        injection hm with m1 m2
        obtain ⟨x1,x2⟩:=x
        have k1:=valueOf_len hv
        have k2:=take_len x1
        have k3 : r3.tail.length≤r3.length:=by rw [List.length_tail];omega
        simp only at m1 m2
        rw [← m1,← m2]
        omega
      ·injection hm with hm
       injection hm with m1 m2
       rw [← m1,← m2]
       simp
     have ho : Fo.atB (if (isName (Mg.fold (c :: t.takeWhile atStop)) && !hasAt out (Mg.fold (c :: t.takeWhile atStop))) = true then out++[⟨Mg.fold (c :: t.takeWhile atStop),v⟩] else out)≤Fo.atB out + (1 + (Mg.fold (c :: t.takeWhile atStop)).length + v.length):=by
      split
      ·rw [atB_app1]
       exact Nat.le_refl _
      ·omega
     omega
theorem behind_len (p : Bs) : ∀ (r rest : Bs),behind p r = some rest→rest.length≤r.length
 | [],rest,h=>by
  unfold behind at h
  split at h
  ·injection h with h
   rw [← h]
   exact Nat.le_refl _
  ·cases h
 | c :: t,rest,h=>by
  unfold behind at h
  split at h
  ·injection h with h
   rw [← h,List.length_drop]
   omega
  ·have:=behind_len p t rest h
   rw [List.length_cons]
   omega
theorem fold_len (l : Bs) : (Mg.fold l).length = l.length:=by unfold Mg.fold;simp
theorem hereAt_bulk (c : UInt8) (tl : Bs) : (∀ rest,hereAt (c :: tl) = .gone rest→rest.length≤tl.length + 1)∧∀ k rest,hereAt (c :: tl) = .tag k rest→2 + k.name.length + k.text.length + Fo.atB k.ats + 8 * rest.length≤8 * (tl.length + 1):=by
 have hp : ∀ p r,r.length≤tl.length + 1→(∀ rest,passAt p r = .gone rest→rest.length≤tl.length + 1)∧∀ k rest,passAt p r = .tag k rest→2 + k.name.length + k.text.length + Fo.atB k.ats + 8 * rest.length≤8 * (tl.length + 1):=by
  intro p r hr
  unfold passAt
  split
  ·exact ⟨fun _ h=>(by cases h),fun _ _ h=>by cases h⟩
  ·rename_i rest' hb
   refine ⟨fun rest h=>?_,fun _ _ h=>by cases h⟩
   injection h with h
   have:=behind_len p _ _ hb
   rw [← h]
   omega
 unfold hereAt
 split
 ·unfold openAt
  rw [List.tail_cons]
  have hl:=tw_dw tagStop tl
  have hf:=fold_len (tl.takeWhile tagStop)
  simp only
  split
  ·exact ⟨fun _ h=>(by cases h),fun _ _ h=>by cases h⟩
  ·rename_i l rest' ha
   have hb:=attrsN_bulk _ _ [] l rest' ha
   have e0 : Fo.atB [] = 0:=rfl
   split
   ·refine ⟨fun _ h=>(by cases h),fun k rest h=>?_⟩
    injection h with h1 h2
    rw [← h1,← h2]
    simp only [List.length_nil]
    omega
   ·refine ⟨fun rest h=>?_,fun _ _ h=>by cases h⟩
    injection h with h
    rw [← h]
    omega
 ·split
  ·unfold closeAt
   have hl:=tw_dw tagStop ((c :: tl).drop 2)
   have hd : ((c :: tl).drop 2).length≤tl.length:=by rw [List.length_drop,List.length_cons];omega
   have hf:=fold_len (((c :: tl).drop 2).takeWhile tagStop)
   simp only
   split
   ·exact ⟨fun _ h=>(by cases h),fun _ _ h=>by cases h⟩
   ·rename_i rest' hb
    have hb2:=behind_len _ _ _ hb
    split
    ·refine ⟨fun _ h=>(by cases h),fun k rest h=>?_⟩
     injection h with h1 h2
     have e0 : Fo.atB [] = 0:=rfl
     rw [← h1,← h2]
     simp only [List.length_nil]
     omega
    ·refine ⟨fun rest h=>?_,fun _ _ h=>by cases h⟩
     injection h with h
     rw [← h]
     omega
  ·split
   ·exact hp _ _ (by rw [List.length_drop,List.length_cons];omega)
   ·split
    ·exact hp _ _ (by rw [List.length_cons];omega)
    ·exact ⟨fun _ h=>(by cases h),fun _ _ h=>by cases h⟩
theorem tokB_app (l m : List Tok) : tokB (l++m) = tokB l + tokB m:=by simp [tokB]
theorem flush_bulk (text : Bs) (out : List Tok) : tokB (flush text out)≤tokB out + 8 * text.length:=by
 have h:=take_len text
 unfold flush
 simp only
 split
 ·omega
 ·rename_i hn
  have : (take text).1.length ≠ 0:=fun e=>hn (List.eq_nil_of_length_eq_zero e)
  have e0 : Fo.atB [] = 0:=rfl
  have e1 : tokB [] = 0:=rfl
  rw [tokB_app,tokB_cons,e1]
  simp only [List.length_nil,e0]
  omega
theorem toksN_bulk : ∀ (n : Nat) (r text : Bs) (out : List Tok),tokB (toksN n r text out)≤tokB out + 8 * (text.length + r.length)
 | 0,r,text,out=>by
  have e : toksN 0 r text out = flush text out:=by unfold toksN;rfl
  have:=flush_bulk text out
  rw [e]
  omega
 | n + 1,[],text,out=>by
  have e : toksN (n + 1) [] text out = flush text out:=by unfold toksN;rfl
  have:=flush_bulk text out
  rw [e]
  omega
 | n + 1,c :: t,text,out=>by
  unfold toksN
  rw [List.length_cons]
  split
  ·obtain ⟨b1,b2⟩:=hereAt_bulk c t
   split
   ·have:=toksN_bulk n t (text++[60]) out
    rw [List.length_append,List.length_singleton] at this
    omega
   ·have:=flush_bulk (text++c :: t) out
    rw [List.length_append,List.length_cons] at this
    omega
   ·rename_i rest hh
    have:=toksN_bulk n rest text out
    have:=b1 rest hh
    omega
   ·rename_i k rest hh
    have h1:=toksN_bulk n rest [] (flush text out++[k])
    have h2:=b2 k rest hh
    have h3:=flush_bulk text out
    have e1 : tokB [] = 0:=rfl
    rw [tokB_app,tokB_cons,e1,List.length_nil] at h1
    omega
  ·have:=toksN_bulk n t (text++[c]) out
   rw [List.length_append,List.length_singleton] at this
   omega
theorem toks_bulk (s : Bs) : tokB (toks s)≤8 * s.length:=by
 have:=toksN_bulk s.length s [] []
 have e1 : tokB [] = 0:=rfl
 rw [e1,List.length_nil] at this
 show tokB (toksN s.length s [] [])≤_
 omega
theorem fold_bulk : ∀ (l : List Tok) (b : Bld),Bld.bulk (l.foldl token b)≤Bld.bulk b + tokB l
 | [],b=>by show Bld.bulk b≤_;omega
 | t :: l,b=>by
  have h1:=fold_bulk l (b.token t)
  have h2:=token_bulk b t
  rw [List.foldl_cons,tokB_cons]
  omega
theorem build_bulk (l : List Tok) : (build l).bulk≤tokB l:=by
 have h1:=fold_bulk l ⟨.nil,[]⟩
 have h2:=close_bulk (l.foldl token ⟨.nil,[]⟩) 0
 have h3:=close_zero (l.foldl token ⟨.nil,[]⟩)
 have h4:=fos_zero _ h3
 have h5 : Bld.bulk ((l.foldl token ⟨.nil,[]⟩).close 0) = (build l).bulk:=by
  unfold Bld.bulk
  rw [h3,h4,foB_one]
  unfold build
  simp [opB]
 have h6 : Bld.bulk ⟨.nil,[]⟩ = 0:=rfl
 omega
theorem put_len (t : Bs) : (put t).length≤6 * t.length:=by
 induction t with
 | nil=>exact Nat.zero_le _
 | cons c t ih =>
  have h : (esc c).length≤6:=by
   unfold esc
   repeat' split
   all_goals simp
  have e : put (c :: t) = esc c++put t:=rfl
  rw [e,List.length_append,List.length_cons]
  omega
theorem written_bulk : ∀ l : List At,(written l).length≤6 * Fo.atB l
 | []=>Nat.zero_le _
 | a :: l=>by
  have h1:=written_bulk l
  have h2:=put_len a.v
  have e : Fo.atB (a :: l) = 1 + a.n.length + a.v.length + Fo.atB l:=by simp [Fo.atB]
  rw [written_cons,e]
  simp only [List.length_cons,List.length_append]
  omega
theorem bytes_app (l m : List Tok) : bytes (l++m) = bytes l++bytes m:=List.flatMap_append ..
theorem bytes_bulk : ∀ f : Fo,(bytes (flat f)).length≤16 * f.bulk:=by
 intro f
 induction f with
 | nil=>exact Nat.zero_le _
 | node n a t k r ihk ihr =>
  have e : Fo.bulk (.node n a t k r) = 1 + n.length + t.length + Fo.atB a + Fo.bulk k + Fo.bulk r:=rfl
  rw [e]
  by_cases hn : n = []
  ·have e2 : flat (.node n a t k r) = [⟨1,[],[],t⟩]++flat r:=by rw [flat,if_pos hn];rfl
   have h1:=put_len t
   have e3 : bytes [(⟨1,[],[],t⟩ : Tok)] = put t:=by
    show tokBytes ⟨1,[],[],t⟩++[] = _
    rw [List.append_nil]
    rfl
   rw [e2,bytes_app,e3,List.length_append]
   omega
  ·have e2 : flat (.node n a t k r) = [⟨2,n,a,[]⟩]++((if emptyB n = true then [] else flat k++[⟨3,n,[],[]⟩])++flat r):=by rw [flat,if_neg hn];rfl
   have h1:=written_bulk a
   have e3 : (bytes [(⟨2,n,a,[]⟩ : Tok)]).length = 2 + n.length + (written a).length:=by
    show (([60]++n++written a++[62])++[]).length = _
    simp
    omega
   have e4 : (bytes [(⟨3,n,[],[]⟩ : Tok)]).length = 3 + n.length:=by
    show (([60,47]++n++[62])++[]).length = _
    simp
    omega
   rw [e2,bytes_app,bytes_app,List.length_append,List.length_append,e3]
   split
   ·have : (bytes []).length = 0:=rfl
    omega
   ·rw [bytes_app,List.length_append,e4]
    omega
theorem flat_mem : ∀ (f : Fo) (t : Tok),t ∈ flat f→t.text.length≤f.bulk∧∀ a ∈ t.ats,a.v.length≤f.bulk:=by
 intro f
 induction f with
 | nil=>intro t h;cases h
 | node n a t k r ihk ihr =>
  intro x h
  have e : Fo.bulk (.node n a t k r) = 1 + n.length + t.length + Fo.atB a + Fo.bulk k + Fo.bulk r:=rfl
  rw [e]
  have hr : x ∈ flat r→x.text.length≤1 + n.length + t.length + Fo.atB a + Fo.bulk k + Fo.bulk r∧∀ b ∈ x.ats,b.v.length≤1 + n.length + t.length + Fo.atB a + Fo.bulk k + Fo.bulk r:=fun q=>by
   obtain ⟨q1,q2⟩:=ihr x q
   exact ⟨by omega,fun b hb=>by have:=q2 b hb;omega⟩
  by_cases hn : n = []
  ·rw [flat,if_pos hn] at h
   rcases List.mem_cons.1 h with q | q
   ·rw [q]
    exact ⟨by simp only;omega,fun b hb=>by cases hb⟩
   ·exact hr q
  ·rw [flat,if_neg hn] at h
   rcases List.mem_cons.1 h with q | q
   ·rw [q]
    refine ⟨by simp only [List.length_nil];omega,fun b hb=>?_⟩
    have h9 : 1 + b.n.length + b.v.length≤Fo.atB a:=atB_mem hb
    omega
   ·rcases List.mem_append.1 q with q | q
    ·split at q
     ·cases q
     ·rcases List.mem_append.1 q with q | q
      ·obtain ⟨q1,q2⟩:=ihk x q
       exact ⟨by omega,fun b hb=>by have:=q2 b hb;omega⟩
      ·rw [List.mem_singleton.1 q]
       exact ⟨by simp only [List.length_nil];omega,fun b hb=>by cases hb⟩
    ·exact hr q
theorem clean_bulk (base : Bs) (f : Fo) : (clean base f).bulk≤3001 * f.bulk:=by
 have:=(cleanOn_bulk base f .nil).1
 have e : Fo.bulk .nil = 0:=rfl
 unfold clean
 omega
theorem fits (base s : Bs) (hs : s.length≤3000) : Fits base s:=by
 have h1:=toks_bulk s
 have h2:=build_bulk (toks s)
 have h3:=clean_bulk base (build (toks s))
 have h4:=bytes_bulk (clean base (build (toks s)))
 refine ⟨hs,by omega,by omega,by omega,?_⟩
 show (bytes (flat (clean base (build (toks s))))).length≤_
 omega
end Mk

/- Bounds on what the reference's builder builds. No program in sight. -/
namespace Mk
open Fo Bld
theorem app_bulk2 : ∀ (f g : Fo),(f.app g).bulk = f.bulk + g.bulk
 | .nil,g=>by show g.bulk = 0 + g.bulk;omega
 | .node n a t k r,g=>by
  have:=app_bulk2 r g
  show 1 + n.length + t.length + atB a + k.bulk + (r.app g).bulk = 1 + n.length + t.length + atB a + k.bulk + r.bulk + g.bulk
  omega
theorem boR_bulk : ∀ (N : Nat) (l : List Tok) (op : List Bs) (out : Fo),l.length≤N→(boR l op out).1.bulk + tokB (boR l op out).2.1≤out.bulk + tokB l
 | _,[],op,out,_=>Nat.le_refl _
 | 0,t :: r,op,out,h=>by simp at h
 | N + 1,t :: r,op,out,h=>by
  have h : r.length≤N:=by simpa using h
  have e0 : Fo.bulk .nil = 0:=rfl
  have ha : Fo.atB [] = 0:=rfl
  have hc:=tokB_cons t r
  rw [boR_cons]
  split
  ·have h1:=boR_bulk N r op (snoc [] [] t.text nil out) h
   have h2:=snoc_bulk out [] [] t.text nil
   simp only [List.length_nil] at h2
   omega
  split
  ·split
   ·have h1:=boR_bulk N r op out h
    omega
   ·simp only;omega
  split
  ·exact Nat.le_refl _
  split
  ·have h1:=boR_bulk N r op out h
   omega
  split
  ·have h1:=boR_bulk N r op (out.app (node t.name t.ats [] nil nil)) h
   have h2:=app_bulk2 out (node t.name t.ats [] nil nil)
   have h3 : (node t.name t.ats [] nil nil).bulk = 1 + t.name.length + 0 + atB t.ats + 0 + 0:=rfl
   omega
  have h1:=boR_bulk N r (op++[t.name]) nil h
  have hl:=boR_len r (op++[t.name]) nil
  generalize boR r (op++[t.name]) nil = x at h1 hl ⊢
  have h2:=app_bulk2 out (node t.name t.ats [] x.1 nil)
  have h3 : (node t.name t.ats [] x.1 nil).bulk = 1 + t.name.length + 0 + atB t.ats + x.1.bulk + 0:=rfl
  split
  ·simp only;omega
  ·have h4:=boR_bulk N x.2.1 op (out.app (node t.name t.ats [] x.1 nil)) (by omega)
   omega
end Mk

/- Plain laws of a run of bytes, as a loop goes over it, and of signs that are told. No program in sight. -/
namespace Mk
/-- the first bytes of a text are such. -/
def Runs (q : UInt8→Bool) (l : Bs) (n : Nat) : Prop:=n≤l.length∧∀ x ∈ l.take n,q x = true
theorem Runs.zero (q : UInt8→Bool) (l : Bs) : Runs q l 0:=⟨Nat.zero_le _,fun x h=>by simp at h⟩
theorem Runs.succ {q : UInt8→Bool} {l : Bs} {n : Nat} (h : Runs q l n) (hn : n < l.length) (hq : q l[n] = true) : Runs q l (n + 1):=by
 refine ⟨hn,fun x hx=>?_⟩
 rw [List.take_succ_eq_append_getElem hn] at hx
 rcases List.mem_append.1 hx with h1 | h1
 ·exact h.2 x h1
 ·rw [List.mem_singleton] at h1
  rw [h1]
  exact hq
theorem runs_ends (q : UInt8→Bool) : ∀ (l : Bs) (n : Nat),Runs q l n→(n = l.length ∨ ∃ h : n < l.length,q l[n] = false)→l.takeWhile q = l.take n∧l.dropWhile q = l.drop n
 | [],n,_,_=>by simp
 | c :: t,0,_,h=>by
  rcases h with h | ⟨h,hq⟩
  ·simp at h
  ·have hq : q c = false:=hq
   rw [List.takeWhile_cons_of_neg (by rw [hq];decide),List.dropWhile_cons_of_neg (by rw [hq];decide)]
   exact ⟨rfl,rfl⟩
 | c :: t,n + 1,hr,h=>by
  have hc : q c = true:=hr.2 c (by simp)
  obtain ⟨e1,e2⟩:=runs_ends q t n ⟨by have:=hr.1;simpa using this,fun x hx=>hr.2 x (by simp [hx])⟩ (by
   rcases h with h | ⟨h,hq⟩
   ·exact .inl (by simpa using h)
   ·exact .inr ⟨by simpa using h,by simpa using hq⟩)
  rw [List.takeWhile_cons_of_pos hc,List.dropWhile_cons_of_pos hc,e1,e2]
  exact ⟨rfl,rfl⟩
end Mk

/- Plain laws of a loop that goes over bytes as long as they are such. No program in sight. -/
namespace Mk
/-- all bytes from a place up to another are such. -/
def RunTo (q : UInt8→Bool) (s : Bs) (j i : Nat) : Prop:=j≤i∧i≤s.length∧∀ (m : Nat) (h : m < s.length),j≤m→m < i→q s[m] = true
def RunEnd (q : UInt8→Bool) (s : Bs) (i : Nat) : Prop:=i = s.length ∨ ∃ h : i < s.length,q s[i] = false
theorem RunTo.start {q : UInt8→Bool} {s : Bs} {j : Nat} (h : j≤s.length) : RunTo q s j j:=⟨Nat.le_refl _,h,fun m _ h1 h2=>by omega⟩
theorem RunTo.next {q : UInt8→Bool} {s : Bs} {j i : Nat} (h : RunTo q s j i) (hl : i < s.length) (x : UInt8) (hx : s[i] = x) (hq : q x = true) : RunTo q s j (i + 1) :=
 ⟨Nat.le_succ_of_le h.1,hl,fun m hm h1 h2=>by
  by_cases e : m = i
  ·subst e;rw [hx];exact hq
  ·exact h.2.2 m hm h1 (by omega)⟩
theorem RunEnd.at_ {q : UInt8→Bool} {s : Bs} {i : Nat} (hl : i < s.length) (x : UInt8) (hx : s[i] = x) (hq : q x = false) : RunEnd q s i:=.inr ⟨hl,by rw [hx];exact hq⟩
theorem run_end (q : UInt8→Bool) (s : Bs) (i : Nat) (he : RunEnd q s i) : ∀ n j,i = j + n→RunTo q s j i→(s.drop j).dropWhile q = s.drop i∧(s.drop j).takeWhile q = (s.drop j).take n
 | 0,j,e,h=>by
  have e : i = j:=e
  subst e
  rcases he with he | ⟨hl,hq⟩
  ·rw [List.drop_of_length_le (by omega)];exact ⟨rfl,rfl⟩
  ·rw [List.drop_eq_getElem_cons hl,List.dropWhile_cons_of_neg (by rw [hq];decide),List.takeWhile_cons_of_neg (by rw [hq];decide)]
   exact ⟨rfl,rfl⟩
 | n + 1,j,e,h=>by
  have hjl : j < s.length:=by have:=h.2.1;omega
  have hj:=h.2.2 j hjl (Nat.le_refl _) (by omega)
  obtain ⟨h1,h2⟩:=run_end q s i he n (j + 1) (by omega) ⟨by omega,h.2.1,fun m hm a b=>h.2.2 m hm (by omega) b⟩
  rw [List.drop_eq_getElem_cons hjl,List.dropWhile_cons_of_pos hj,List.takeWhile_cons_of_pos hj,h1,h2]
  exact ⟨rfl,rfl⟩
theorem run_drop {q : UInt8→Bool} {s : Bs} {j i : Nat} (h : RunTo q s j i) (he : RunEnd q s i) : (s.drop j).dropWhile q = s.drop i:=(run_end q s i he (i - j) j (by have:=h.1;omega) h).1
theorem run_take {q : UInt8→Bool} {s : Bs} {j i : Nat} (h : RunTo q s j i) (he : RunEnd q s i) : (s.drop j).takeWhile q = (s.drop j).take (i - j):=(run_end q s i he (i - j) j (by have:=h.1;omega) h).2
theorem sep_of (c : UInt8) (w : Bool) (h : white c = w) : sepB c = (w || c == 47):=by unfold sepB;rw [h]
theorem stop_of (c : UInt8) (w : Bool) (h : white c = w) : atStop c = (!w && c != 47 && c != 62 && c != 61):=by unfold atStop;rw [h]
theorem tag_of (c : UInt8) (w : Bool) (h : white c = w) : tagStop c = (!w && c != 47 && c != 62):=by unfold tagStop;rw [h]
theorem white_of (c : UInt8) (w : Bool) (h : white c = w) : white c = w:=h
theorem bare_of (c : UInt8) (w : Bool) (h : white c = w) : bareB c = (!w && c != 62):=by unfold bareB;rw [h]
theorem dw_at (q : UInt8) : ∀ (l : Bs) (x : UInt8) (u : Bs),l.dropWhile (· != q) = x :: u→∃ m,nxt [q] l = some m∧m + 1≤l.length∧l.takeWhile (· != q) = l.take m∧u = l.drop (m + 1)
 | [],x,u,h=>by cases h
 | c :: t,x,u,h=>by
  by_cases hc : c = q
  ·subst hc
   rw [List.dropWhile_cons_of_neg (by simp)] at h
   injection h with h1 h2
   refine ⟨0,?_,by simp,?_,by rw [← h2];rfl⟩
   ·rw [nxt,if_pos (by simp [Mg.pre])]
   ·rw [List.takeWhile_cons_of_neg (by simp)];rfl
  ·rw [List.dropWhile_cons_of_pos (by simpa using hc)] at h
   obtain ⟨m,h1,h2,h3,h4⟩:=dw_at q t x u h
   refine ⟨m + 1,?_,by simp;omega,?_,by rw [h4];rfl⟩
   ·rw [nxt,if_neg (by simp [Mg.pre,Ne.symm hc];exact fun e=>hc e),h1];rfl
   ·rw [List.takeWhile_cons_of_pos (by simpa using hc),h3];rfl
theorem dw_no (q : UInt8) : ∀ (l : Bs),l.dropWhile (· != q) = []→nxt [q] l = none
 | [],_=>rfl
 | c :: t,h=>by
  by_cases hc : c = q
  ·subst hc
   rw [List.dropWhile_cons_of_neg (by simp)] at h
   cases h
  ·rw [List.dropWhile_cons_of_pos (by simpa using hc)] at h
   rw [nxt,if_neg (by simp [Mg.pre];exact fun e=>hc e),dw_no q t h]
   rfl
theorem hasAt_take (l : List At) (n : Bs) (i : Nat) (h : i < l.length) : hasAt (l.take (i + 1)) n = (hasAt (l.take i) n || l[i].n == n):=by
 unfold hasAt
 rw [List.take_succ_eq_append_getElem h,List.any_append]
 simp
theorem quote_of (q : UInt8) (h : q = 34 ∨ q = 39) : quoteB q = true:=by rcases h with rfl | rfl <;> rfl
end Mk
namespace Go.Proofs.YteidgdpaolieaaaGreatDoor
open Go.RowKit
theorem AtsV.slice_at {w : World} {K : Nat→Prop} {v : Value} {l : List Mk.At} (h : AtsV w K v l) : ∃ ao cap,v = .slice ao l.length cap∧∀ k (hk : k < l.length),∃ g o,ao = some ⟨g,o,none⟩∧K g∧w.cell? ⟨g,o + k * 2,none⟩ = some (.string (st l[k].n))∧w.cell? ⟨g,o + k * 2 + 1,none⟩ = some (.string (st l[k].v)):=by
 obtain ⟨g,o,cap,hK,hv,hc⟩:=h.at_
 rcases hv with hv | ⟨ao,hv,hl⟩
 ·exact ⟨_,_,hv,fun k hk=>⟨g,o,rfl,hK (by rintro rfl;simp at hk),(hc k hk).1,(hc k hk).2⟩⟩
 ·exact ⟨ao,cap,by rw [hv,hl];rfl,fun k hk=>by rw [hl] at hk;simp at hk⟩
end Go.Proofs.YteidgdpaolieaaaGreatDoor
