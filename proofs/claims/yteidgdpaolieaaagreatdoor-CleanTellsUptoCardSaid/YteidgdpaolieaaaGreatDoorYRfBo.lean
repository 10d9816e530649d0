/- The plain law of the reference's builder: what it builds, one element within another, is what the program's builder builds. No program in sight. -/
import Derived.Test.YteidgdpaolieaaaGreatDoorYRfK
import Derived.Test.YteidgdpaolieaaaGreatDoorYMkTree3
import Derived.Test.YteidgdpaolieaaaGreatDoorYMkTok5
import Derived.Deep.RegionHeld3
import Derived.RegionTactic
import Derived.ChangeAlike
set_option linter.unusedVariables false
set_option linter.unusedSimpArgs false
namespace Mk
open Fo
/-- nodes that stand in names, behind some; the tokens that are left, and how many names stay open. -/
def bo : Nat→List Tok→List Bs→Fo→Fo × List Tok × Nat
 | 0,l,op,out=>(out,l,op.length)
 | _ + 1,[],op,out=>(out,[],op.length)
 | n + 1,t :: r,op,out =>
  if t.kind = 1 then bo n r op (snoc [] [] t.text nil out)
  else if t.kind = 3 then
   match above t.name (fun _=>false) op with
   | none=>bo n r op out
   | some i=>(out,r,i)
  else if stays op t.name < op.length then (out,t :: r,stays op t.name)
  else if op.length = 8 then bo n r op out
  else if emptyB t.name then bo n r op (out.app (node t.name t.ats [] nil nil))
  else
   let x:=bo n r (op++[t.name]) nil
   if x.2.2 < op.length then (out.app (node t.name t.ats [] x.1 nil),x.2)
   else bo n x.2.1 op (out.app (node t.name t.ats [] x.1 nil))
/-- names that were let in, the innermost first. -/
def NmOk : List Bs→Prop | []=>True | n :: r=>Fine r n∧NmOk r
theorem find_nm (x : Bs) (q : Bs→Bool) : ∀ (l r : List Bs),NmOk l→findR x q l = some r→Fine r x∧NmOk r
 | [],_,_,h=>by cases h
 | o :: l,r,ho,h=>by
  unfold findR at h
  by_cases e : o = x
  ·rw [if_pos e] at h
   injection h with h
   subst h
   subst e
   exact ho
  ·rw [if_neg e] at h
   by_cases e2 : q o = true
   ·rw [if_pos e2] at h;cases h
   ·rw [if_neg e2] at h
    exact find_nm x q l r ho.2 h
theorem stays_nm (l : List Bs) (n : Bs) (h : NmOk l) : Fine (staysR l n) n∧NmOk (staysR l n):=by
 by_cases hb : blockB n = true
 ·unfold staysR
  simp only [hb,if_true]
  have key : findR [112] wallB ((findR [112] wallB l).getD l) = none∧NmOk ((findR [112] wallB l).getD l):=by
   cases hf : findR [112] wallB l with
   | none=>exact ⟨hf,h⟩
   | some r =>
    obtain ⟨f1,f2⟩:=find_nm _ _ l r h hf
    exact ⟨f1.1 (by decide),f2⟩
  obtain ⟨k1,k2⟩:=key
  generalize (findR [112] wallB l).getD l = m at k1 k2 ⊢
  by_cases hl : n = li
  ·rw [if_pos (by simpa using hl)]
   cases hf : findR li listB m with
   | none=>exact ⟨⟨fun _=>k1,fun _=>hf⟩,k2⟩
   | some r =>
    obtain ⟨f1,f2⟩:=find_nm _ _ m r k2 hf
    rw [hl]
    exact ⟨f1,f2⟩
  ·rw [if_neg (by simpa using hl)]
   exact ⟨⟨fun _=>k1,fun q=>absurd q hl⟩,k2⟩
 ·have e : staysR l n = l:=by
   unfold staysR
   rw [if_neg hb]
   simp only
   rw [if_neg]
   intro q
   exact hb (by rw [show n = li by simpa using q];decide)
  rw [e]
  exact ⟨⟨fun q=>absurd q hb,fun q=>absurd (by rw [q];decide) hb⟩,h⟩
namespace Bld
theorem closeN_nm : ∀ (m : Nat) (root : Fo) (ops : List Op),m≤ops.length→∃ root' ops',closeN m (R root ops) = R root' ops'∧ops'.map (·.name) = (ops.map (·.name)).drop m
 | 0,root,ops,_=>⟨root,ops,rfl,rfl⟩
 | m + 1,root,[],hm=>by simp at hm
 | m + 1,root,o :: r,hm=>by
  obtain ⟨root',ops',e,q⟩:=closeN_nm m (rs root r (snoc o.name o.ats [] o.kids (cur root r))) (os r (snoc o.name o.ats [] o.kids (cur root r))) (by rw [len_set];simpa using hm)
  refine ⟨root',ops',?_,?_⟩
  ·show closeN m (R root (o :: r)).pop = _
   rw [pop_R,putIn_R]
   exact e
  ·rw [q]
   cases r <;> rfl
theorem close_lenR (root : Fo) (ops : List Op) : (R root ops).close ops.length = R root ops:=by
 unfold close
 rw [open_R,Nat.sub_self]
 rfl
theorem close_pop (root : Fo) (o : Op) (r : List Op) (m : Nat) (hm : m≤r.length) : (R root (o :: r)).close m = ((R root r).putIn o.name o.ats [] o.kids).close m:=by
 unfold close
 rw [open_R,putIn_R,open_R,len_set,← putIn_R,List.length_cons,Nat.succ_sub hm]
 show closeN _ (R root (o :: r)).pop = _
 rw [pop_R]
theorem token_close (root : Fo) (ops : List Op) (t : Tok) (hk : t.kind = 2) (hn : NmOk (ops.map (·.name))) : (R root ops).token t = ((R root ops).close (stays (nmOf ops) t.name)).token t:=by
 have hsl : stays (nmOf ops) t.name = (staysR (ops.map (·.name)) t.name).length:=stays_R _ _
 have hdrop:=staysR_drop (ops.map (·.name)) t.name
 rw [List.length_map] at hdrop
 obtain ⟨root',ops',e,q⟩:=closeN_nm (ops.length - (staysR (ops.map (·.name)) t.name).length) root ops (Nat.sub_le _ _)
 have hf:=(stays_nm _ t.name hn).1
 have hcl : (R root ops).close (stays (nmOf ops) t.name) = R root' ops':=by
  unfold close
  rw [open_R,hsl]
  exact e
 have hq : ops'.map (·.name) = staysR (ops.map (·.name)) t.name:=by rw [q,← hdrop]
 have h2 : (R root' ops').close (stays (nmOf ops') t.name) = R root' ops':=by
  have : stays (nmOf ops') t.name = ops'.length:=by
   rw [show stays (nmOf ops') t.name = (staysR (ops'.map (·.name)) t.name).length from stays_R _ _,hq,fine_stays hf,← hq,List.length_map]
  rw [this,close_lenR]
 rw [hcl]
 unfold token
 have h1 : ¬ t.kind = 1:=by rw [hk];decide
 simp only [if_neg h1,if_pos hk,names_R,hcl,h2]
end Bld
open Bld
theorem bo_law : ∀ (n : Nat) (l : List Tok) (root : Fo) (ops : List Op),l.length≤n→(∀ t ∈ l,TokOk t)→NmOk (ops.map (·.name)) →
  ((bo n l (nmOf ops) (cur root ops)).2.2 < ops.length ∨ ((bo n l (nmOf ops) (cur root ops)).2.2 = ops.length∧(bo n l (nmOf ops) (cur root ops)).2.1 = [])) ∧
  (∃ p,l = p++(bo n l (nmOf ops) (cur root ops)).2.1) ∧
  (l.foldl token (R root ops)).close 0 = ((bo n l (nmOf ops) (cur root ops)).2.1.foldl token ((R (rs root ops (bo n l (nmOf ops) (cur root ops)).1) (os ops (bo n l (nmOf ops) (cur root ops)).1)).close (bo n l (nmOf ops) (cur root ops)).2.2)).close 0
 | 0,[],root,ops,_,_,_=>by
  refine ⟨.inr ⟨nm_len ops,rfl⟩,⟨[],rfl⟩,?_⟩
  show (R root ops).close 0 = ((R (rs root ops (cur root ops)) (os ops (cur root ops))).close (nmOf ops).length).close 0
  rw [nm_len,← len_set ops (cur root ops),close_lenR]
  cases ops <;> rfl
 | n + 1,[],root,ops,_,_,_=>by
  refine ⟨.inr ⟨nm_len ops,rfl⟩,⟨[],rfl⟩,?_⟩
  show (R root ops).close 0 = ((R (rs root ops (cur root ops)) (os ops (cur root ops))).close (nmOf ops).length).close 0
  rw [nm_len,← len_set ops (cur root ops),close_lenR]
  cases ops <;> rfl
 | n + 1,t :: r,root,ops,hl,ht,hn=>by
  have hl' : r.length≤n:=by simpa using hl
  have ht' : ∀ x ∈ r,TokOk x:=fun x q=>ht x (by simp [q])
    /- go on with other nodes -/
  have go : ∀ (f : Fo) (l2 : List Tok),l2.length≤n→(∀ x ∈ l2,TokOk x) →
    ((bo n l2 (nmOf ops) f).2.2 < ops.length ∨ ((bo n l2 (nmOf ops) f).2.2 = ops.length∧(bo n l2 (nmOf ops) f).2.1 = [])) ∧
    (∃ p,l2 = p++(bo n l2 (nmOf ops) f).2.1) ∧
    (l2.foldl token (R (rs root ops f) (os ops f))).close 0 = ((bo n l2 (nmOf ops) f).2.1.foldl token ((R (rs root ops (bo n l2 (nmOf ops) f).1) (os ops (bo n l2 (nmOf ops) f).1)).close (bo n l2 (nmOf ops) f).2.2)).close 0:=fun f l2 h1 h2=>by
   have h:=bo_law n l2 (rs root ops f) (os ops f) h1 h2 (by cases ops <;> exact hn)
   rw [cur_set,nm_set,len_set,rs_set,os_set] at h
   exact h
  have hstay : R root ops = R (rs root ops (cur root ops)) (os ops (cur root ops)):=by cases ops <;> rfl
  rcases ht t (by simp) with ⟨k,_,_,hx⟩ | ⟨k,hnm,ha,_⟩ | ⟨k,hnm,_,_⟩
  ·have e : bo (n + 1) (t :: r) (nmOf ops) (cur root ops) = bo n r (nmOf ops) (snoc [] [] t.text nil (cur root ops)):=by
    rw [bo,if_pos k]
   rw [e,List.foldl_cons]
   have et : (R root ops).token t = R (rs root ops (snoc [] [] t.text nil (cur root ops))) (os ops (snoc [] [] t.text nil (cur root ops))):=by
    unfold token
    rw [if_pos k,putIn_R]
   rw [et]
   obtain ⟨g1,⟨p,g2⟩,g3⟩:=go (snoc [] [] t.text nil (cur root ops)) r hl' ht'
   exact ⟨g1,⟨t :: p,by rw [List.cons_append,← g2]⟩,g3⟩
  ·have hne:=name_ne hnm
   have hsn : ∀ kk,snoc t.name t.ats [] kk (cur root ops) = (cur root ops).app (node t.name t.ats [] kk nil):=fun kk=>snoc_app _ _ _ _ _ (fun q=>hne q.1)
   have hsle : stays (nmOf ops) t.name≤ops.length:=by
    rw [show stays (nmOf ops) t.name = (staysR (ops.map (·.name)) t.name).length from stays_R _ _,staysR_drop,List.length_drop,List.length_map]
    exact Nat.sub_le _ _
   by_cases hs : stays (nmOf ops) t.name < (nmOf ops).length
   ·have e : bo (n + 1) (t :: r) (nmOf ops) (cur root ops) = (cur root ops,t :: r,stays (nmOf ops) t.name):=by
     rw [bo,if_neg (by rw [k];decide),if_neg (by rw [k];decide),if_pos hs]
    rw [e]
    refine ⟨.inl (by rwa [nm_len] at hs),⟨[],rfl⟩,?_⟩
    show _ = (List.foldl token ((R (rs root ops (cur root ops)) (os ops (cur root ops))).close (stays (nmOf ops) t.name)) (t :: r)).close 0
    rw [← hstay,List.foldl_cons,List.foldl_cons,token_close root ops t k hn]
   ·have hseq : stays (nmOf ops) t.name = ops.length:=by rw [nm_len] at hs;omega
    have hfine : Fine (ops.map (·.name)) t.name:=stays_fine (by
     rw [show stays (nmOf ops) t.name = (staysR (ops.map (·.name)) t.name).length from stays_R _ _] at hseq
     rw [hseq,List.length_map]
     exact Nat.le_refl _)
    have hcl : (R root ops).close (stays (R root ops).names t.name) = R root ops:=by rw [names_R,hseq,close_lenR]
    have et : (R root ops).token t = if ops.length = 8 then R root ops else if emptyB t.name = true then (R root ops).putIn t.name t.ats [] nil else R root (⟨t.name,t.ats,nil⟩ :: ops):=by
     unfold token
     rw [if_neg (by rw [k];decide),if_pos k]
     simp only [hcl,open_R,push_R]
    rw [List.foldl_cons,et]
    by_cases h8 : ops.length = 8
    ·have e : bo (n + 1) (t :: r) (nmOf ops) (cur root ops) = bo n r (nmOf ops) (cur root ops):=by
      rw [bo,if_neg (by rw [k];decide),if_neg (by rw [k];decide),if_neg hs,if_pos (by rw [nm_len];exact h8)]
     rw [e,if_pos h8]
     obtain ⟨g1,⟨p,g2⟩,g3⟩:=go (cur root ops) r hl' ht'
     rw [← hstay] at g3
     exact ⟨g1,⟨t :: p,by rw [List.cons_append,← g2]⟩,g3⟩
    rw [if_neg h8]
    by_cases he : emptyB t.name = true
    ·have e : bo (n + 1) (t :: r) (nmOf ops) (cur root ops) = bo n r (nmOf ops) ((cur root ops).app (node t.name t.ats [] nil nil)):=by
      rw [bo,if_neg (by rw [k];decide),if_neg (by rw [k];decide),if_neg hs,if_neg (by rw [nm_len];exact h8),if_pos he]
     rw [e,if_pos he,putIn_R,hsn]
     obtain ⟨g1,⟨p,g2⟩,g3⟩:=go ((cur root ops).app (node t.name t.ats [] nil nil)) r hl' ht'
     exact ⟨g1,⟨t :: p,by rw [List.cons_append,← g2]⟩,g3⟩
    ·rw [if_neg he]
     have ih : ((bo n r (nmOf ops++[t.name]) nil).2.2 < ops.length + 1 ∨ ((bo n r (nmOf ops++[t.name]) nil).2.2 = ops.length + 1∧(bo n r (nmOf ops++[t.name]) nil).2.1 = []))∧(∃ p,r = p++(bo n r (nmOf ops++[t.name]) nil).2.1)∧(r.foldl token (R root (⟨t.name,t.ats,nil⟩ :: ops))).close 0 = (List.foldl token ((R root (⟨t.name,t.ats,(bo n r (nmOf ops++[t.name]) nil).1⟩ :: ops)).close (bo n r (nmOf ops++[t.name]) nil).2.2) (bo n r (nmOf ops++[t.name]) nil).2.1).close 0:=by
      have h:=bo_law n r root (⟨t.name,t.ats,nil⟩ :: ops) hl' ht' ⟨hfine,hn⟩
      rw [nm_cons] at h
      exact h
     obtain ⟨i1,⟨p,i2⟩,i3⟩:=ih
     have e : bo (n + 1) (t :: r) (nmOf ops) (cur root ops) = if (bo n r (nmOf ops++[t.name]) nil).2.2 < (nmOf ops).length then ((cur root ops).app (node t.name t.ats [] (bo n r (nmOf ops++[t.name]) nil).1 nil),(bo n r (nmOf ops++[t.name]) nil).2) else bo n (bo n r (nmOf ops++[t.name]) nil).2.1 (nmOf ops) ((cur root ops).app (node t.name t.ats [] (bo n r (nmOf ops++[t.name]) nil).1 nil)):=by
      rw [bo,if_neg (by rw [k];decide),if_neg (by rw [k];decide),if_neg hs,if_neg (by rw [nm_len];exact h8),if_neg he]
     rw [e,i3]
     generalize bo n r (nmOf ops++[t.name]) nil = x at i1 i2 ⊢
     obtain ⟨kids,l2,left⟩:=x
     simp only at i1 i2 ⊢
     rw [nm_len]
     by_cases hlt : left < ops.length
     ·rw [if_pos hlt]
      refine ⟨.inl hlt,⟨t :: p,by rw [List.cons_append,← i2]⟩,?_⟩
      rw [close_pop _ _ _ _ (Nat.le_of_lt hlt),putIn_R,hsn]
     ·rw [if_neg hlt]
      have hl2 : l2.length≤n:=by
       have:=congrArg List.length i2
       rw [List.length_append] at this
       omega
      obtain ⟨g1,⟨p2,g2⟩,g3⟩:=go ((cur root ops).app (node t.name t.ats [] kids nil)) l2 hl2 (fun x q=>ht' x (by rw [i2];simp [q]))
      refine ⟨g1,⟨t :: (p++p2),by rw [List.cons_append,List.append_assoc,← g2,← i2]⟩,?_⟩
      rw [← g3]
      rcases i1 with q | ⟨q,q2⟩
      ·have : left = ops.length:=by omega
       rw [this,close_pop _ _ _ _ (Nat.le_refl _),putIn_R,hsn]
       congr 2
       have:=close_lenR (rs root ops ((cur root ops).app (node t.name t.ats [] kids nil))) (os ops ((cur root ops).app (node t.name t.ats [] kids nil)))
       rw [len_set] at this
       exact this
      ·subst q2
       rw [q]
       have:=close_lenR root (⟨t.name,t.ats,kids⟩ :: ops)
       rw [List.length_cons] at this
       rw [this]
       show (R root (⟨t.name,t.ats,kids⟩ :: ops)).close 0 = (R _ _).close 0
       rw [close_pop _ _ _ _ (Nat.zero_le _),putIn_R,hsn]
  ·rw [List.foldl_cons]
   have et : (R root ops).token t = match above t.name (fun _=>false) (nmOf ops) with | none=>R root ops | some i=>(R root ops).close i:=by
    unfold token
    rw [if_neg (by rw [k];decide),if_neg (by rw [k];decide),if_pos k,names_R]
    cases above t.name (fun _=>false) (nmOf ops) <;> rfl
   have e : bo (n + 1) (t :: r) (nmOf ops) (cur root ops) = match above t.name (fun _=>false) (nmOf ops) with | none=>bo n r (nmOf ops) (cur root ops) | some i=>(cur root ops,r,i):=by
    rw [bo,if_neg (by rw [k];decide),if_pos k]
   rw [e,et]
   cases ha : above t.name (fun _=>false) (nmOf ops) with
   | none =>
    obtain ⟨g1,⟨p,g2⟩,g3⟩:=go (cur root ops) r hl' ht'
    rw [← hstay] at g3
    exact ⟨g1,⟨t :: p,by rw [List.cons_append,← g2]⟩,g3⟩
   | some i =>
    have hi : i < ops.length:=by
     have : above t.name (fun _=>false) (nmOf ops) = (findR t.name (fun _=>false) (ops.map (·.name))).map List.length:=by
      unfold above nmOf
      rw [List.reverse_reverse,aboveR_find]
     rw [this] at ha
     cases hf : findR t.name (fun _=>false) (ops.map (·.name)) with
     | none=>rw [hf] at ha;cases ha
     | some m =>
      rw [hf] at ha
      injection ha with ha
      obtain ⟨m2,e2⟩:=findR_suf _ _ _ _ hf
      have:=congrArg List.length e2
      simp at this
      omega
    exact ⟨.inl hi,⟨[t],rfl⟩,by show _ = (List.foldl token ((R (rs root ops (cur root ops)) (os ops (cur root ops))).close i) r).close 0;rw [← hstay]⟩
/-- what the reference builds is what the program builds. -/
theorem bo_build (l : List Tok) (n : Nat) (hn : l.length≤n) (h : ∀ t ∈ l,TokOk t) : (bo n l [] nil).1 = build l:=by
 obtain ⟨h1,_,h3⟩:=bo_law n l nil [] hn h trivial
 have h4 : (bo n l [] nil).2.2 = 0∧(bo n l [] nil).2.1 = []:=by
  rcases h1 with q | q
  ·simp at q
  ·exact q
 change (l.foldl token (R nil [])).close 0 = (List.foldl token ((R (bo n l [] nil).1 []).close (bo n l [] nil).2.2) (bo n l [] nil).2.1).close 0 at h3
 rw [h4.1,h4.2] at h3
 unfold build
 show _ = ((l.foldl token (R nil [])).close 0).root
 rw [h3]
 rfl
end Mk

/- The plain law of the reference's builder, told without fuel. No program in sight. -/
namespace Mk
open Fo
theorem bo_len : ∀ (n : Nat) (l : List Tok) (op : List Bs) (out : Fo),(bo n l op out).2.1.length≤l.length
 | 0,l,op,out=>Nat.le_refl _
 | n + 1,[],op,out=>Nat.le_refl _
 | n + 1,t :: r,op,out=>by
  rw [bo]
  split
  ·exact Nat.le_succ_of_le (bo_len n r _ _)
  split
  ·split
   ·exact Nat.le_succ_of_le (bo_len n r _ _)
   ·exact Nat.le_succ _
  split
  ·exact Nat.le_refl _
  split
  ·exact Nat.le_succ_of_le (bo_len n r _ _)
  split
  ·exact Nat.le_succ_of_le (bo_len n r _ _)
  have h1:=bo_len n r (op++[t.name]) nil
  simp only
  split
  ·exact Nat.le_succ_of_le h1
  ·exact Nat.le_succ_of_le (Nat.le_trans (bo_len n _ _ _) h1)
theorem bo_fuel : ∀ (n m : Nat) (l : List Tok) (op : List Bs) (out : Fo),l.length≤n→l.length≤m→bo n l op out = bo m l op out
 | 0,m,l,op,out,h,_=>by
  have : l = []:=List.eq_nil_of_length_eq_zero (by omega)
  subst this
  cases m <;> rfl
 | n + 1,m,[],op,out,_,_=>by cases m <;> rfl
 | n + 1,0,t :: r,op,out,_,h=>by simp at h
 | n + 1,m + 1,t :: r,op,out,h1,h2=>by
  have h1 : r.length≤n:=by simpa using h1
  have h2 : r.length≤m:=by simpa using h2
  have hk:=bo_len m r (op++[t.name]) nil
  rw [bo,bo]
  simp only [bo_fuel n m r _ _ h1 h2]
  rw [bo_fuel n m (bo m r (op++[t.name]) nil).2.1 op _ (by omega) (by omega)]
def boR (l : List Tok) (op : List Bs) (out : Fo) : Fo × List Tok × Nat:=bo l.length l op out
theorem boR_nil (op : List Bs) (out : Fo) : boR [] op out = (out,[],op.length):=rfl
theorem boR_len (l : List Tok) (op : List Bs) (out : Fo) : (boR l op out).2.1.length≤l.length:=bo_len _ _ _ _
theorem boR_cons (t : Tok) (r : List Tok) (op : List Bs) (out : Fo) : boR (t :: r) op out =
  if t.kind = 1 then boR r op (snoc [] [] t.text nil out)
  else if t.kind = 3 then
   match above t.name (fun _=>false) op with
   | none=>boR r op out
   | some i=>(out,r,i)
  else if stays op t.name < op.length then (out,t :: r,stays op t.name)
  else if op.length = 8 then boR r op out
  else if emptyB t.name then boR r op (out.app (node t.name t.ats [] nil nil))
  else if (boR r (op++[t.name]) nil).2.2 < op.length then (out.app (node t.name t.ats [] (boR r (op++[t.name]) nil).1 nil),(boR r (op++[t.name]) nil).2)
   else boR (boR r (op++[t.name]) nil).2.1 op (out.app (node t.name t.ats [] (boR r (op++[t.name]) nil).1 nil)):=by
 show bo (r.length + 1) (t :: r) op out = _
 rw [bo]
 simp only
 have h:=bo_len r.length r (op++[t.name]) nil
 rw [bo_fuel r.length (boR r (op++[t.name]) nil).2.1.length (bo r.length r (op++[t.name]) nil).2.1 op _ h (Nat.le_refl _)]
 rfl
theorem boR_build (l : List Tok) (h : ∀ t ∈ l,Bld.TokOk t) : (boR l [] nil).1 = build l:=bo_build l l.length (Nat.le_refl _) h
end Mk

/- A builder of a tree in memory: forests, and elements that are open. No program in sight. -/
namespace Mk
namespace Bld
def fos (b : Bld) : List Fo := b.root :: b.open_.map Op.kids
def ops (b : Bld) : List (Bs × List At) := b.open_.map fun o => (o.name, o.ats)
theorem fos_len (b : Bld) : (fos b).length = (ops b).length + 1 := by simp [fos, ops]
theorem ops_names (b : Bld) : b.names = (ops b).map Prod.fst := by simp [names, ops]
theorem rev_cases (l : List Op) : l = [] ∨ ∃ L o, l = L ++ [o] := by
  rcases List.eq_nil_or_concat l with h | ⟨L, o, h⟩
  · exact .inl h
  · exact .inr ⟨L, o, by simpa using h⟩
theorem putIn_snoc (r : Fo) (L : List Op) (o : Op) (n : Bs) (a : List At) (t : Bs) (k : Fo) : putIn ⟨r, L ++ [o]⟩ n a t k = ⟨r, L ++ [{ o with kids := Fo.snoc n a t k o.kids }]⟩ := by
  simp [putIn]
theorem put_fos (b : Bld) : ∃ L f, fos b = L ++ [f] ∧ ∀ n a t k, fos (putIn b n a t k) = L ++ [Fo.snoc n a t k f] ∧ ops (putIn b n a t k) = ops b := by
  obtain ⟨r, l⟩ := b
  rcases rev_cases l with h | ⟨L, o, h⟩
  · subst h
    exact ⟨[], r, rfl, fun n a t k => ⟨rfl, rfl⟩⟩
  · subst h
    refine ⟨r :: L.map Op.kids, o.kids, by simp [fos], fun n a t k => ?_⟩
    rw [putIn_snoc]
    exact ⟨by simp [fos], by simp [ops]⟩
theorem pop_snoc (r : Fo) (L : List Op) (o : Op) : pop ⟨r, L ++ [o]⟩ = putIn ⟨r, L⟩ o.name o.ats [] o.kids := by
  simp [pop]
theorem pop_fos (b : Bld) (O : List (Bs × List At)) (n : Bs) (a : List At) (h : ops b = O ++ [(n, a)]) : ∃ L f' f, fos b = L ++ [f', f] ∧ fos (pop b) = L ++ [Fo.snoc n a [] f f'] ∧ ops (pop b) = O := by
  obtain ⟨r, l⟩ := b
  rcases rev_cases l with hl | ⟨L, o, hl⟩
  · subst hl; simp [ops] at h
  · subst hl
    have h1 : L.map (fun o => (o.name, o.ats)) ++ [(o.name, o.ats)] = O ++ [(n, a)] := by simpa [ops] using h
    obtain ⟨h2, h3⟩ := List.append_inj' h1 rfl
    injection h3 with h3 _
    injection h3 with h3 h4
    rw [pop_snoc, h3, h4]
    obtain ⟨L', f', e1, e2⟩ := put_fos ⟨r, L⟩
    obtain ⟨e3, e4⟩ := e2 n a [] o.kids
    refine ⟨L', f', o.kids, ?_, e3, by rw [e4]; exact h2⟩
    have : fos ⟨r, L ++ [o]⟩ = fos ⟨r, L⟩ ++ [o.kids] := by simp [fos]
    rw [this, e1]; simp
theorem push_fos (b : Bld) (n : Bs) (a : List At) : fos { b with open_ := b.open_ ++ [⟨n, a, .nil⟩] } = fos b ++ [.nil] ∧ ops { b with open_ := b.open_ ++ [⟨n, a, .nil⟩] } = ops b ++ [(n, a)] := by
  simp [fos, ops]
theorem ops_open (b : Bld) : (ops b).length = b.open_.length := by simp [ops]
/-- how much there is in a builder. -/
def opB (l : List (Bs × List At)) : Nat := (l.map fun o => 1 + o.1.length + Fo.atB o.2).sum
def foB (l : List Fo) : Nat := (l.map Fo.bulk).sum
theorem opB_app (l m : List (Bs × List At)) : opB (l ++ m) = opB l + opB m := by simp [opB]
theorem foB_app (l m : List Fo) : foB (l ++ m) = foB l + foB m := by simp [foB]
theorem foB_one (f : Fo) : foB [f] = Fo.bulk f := by simp [foB]
theorem opB_one (n : Bs) (a : List At) : opB [(n, a)] = 1 + n.length + Fo.atB a := by simp [opB]
def bulk (b : Bld) : Nat := foB (fos b) + opB (ops b)
theorem put_bulk (b : Bld) (n : Bs) (a : List At) (t : Bs) (k : Fo) : bulk (putIn b n a t k) ≤ bulk b + (1 + n.length + t.length + Fo.atB a + Fo.bulk k) := by
  obtain ⟨L, f, h1, h2⟩ := put_fos b
  obtain ⟨h3, h4⟩ := h2 n a t k
  have := Fo.snoc_bulk f n a t k
  unfold bulk
  rw [h1, h3, h4, foB_app, foB_app, foB_one, foB_one]
  omega
theorem pop_bulk (b : Bld) : bulk (pop b) ≤ bulk b := by
  obtain ⟨r, l⟩ := b
  rcases rev_cases l with hl | ⟨L, o, hl⟩
  · subst hl; exact Nat.le_refl _
  · subst hl
    obtain ⟨L', f', f, h1, h2, h3⟩ := pop_fos ⟨r, L ++ [o]⟩ (ops ⟨r, L⟩) o.name o.ats (by simp [ops])
    have h4 : ops ⟨r, L ++ [o]⟩ = ops ⟨r, L⟩ ++ [(o.name, o.ats)] := by simp [ops]
    have := Fo.snoc_bulk f' o.name o.ats [] f
    unfold bulk
    rw [h1, h2, h3, h4, show L' ++ [f', f] = L' ++ [f'] ++ [f] by simp, foB_app, foB_app, foB_app, foB_one, foB_one, foB_one, opB_app, opB_one]
    simp only [List.length_nil] at this
    omega
theorem closeN_bulk : ∀ (n : Nat) (b : Bld), bulk (closeN n b) ≤ bulk b
  | 0, _ => Nat.le_refl _
  | n + 1, b => Nat.le_trans (closeN_bulk n _) (pop_bulk b)
theorem pop_len (b : Bld) : (ops (pop b)).length = (ops b).length - 1 := by
  obtain ⟨r, l⟩ := b
  rcases rev_cases l with hl | ⟨L, o, hl⟩
  · subst hl; rfl
  · subst hl
    obtain ⟨_, _, _, _, _, h3⟩ := pop_fos ⟨r, L ++ [o]⟩ (ops ⟨r, L⟩) o.name o.ats (by simp [ops])
    rw [h3]; simp [ops]
theorem closeN_one (n : Nat) (b : Bld) : closeN (n + 1) b = closeN n b.pop := rfl
end Bld
end Mk
namespace Go.Proofs.YteidgdpaolieaaaGreatDoor
open Go.RowKit
/-- cells of elements that are open. -/
def OCells (w : World) (K : Nat → Prop) : List (Mk.Bs × List Mk.At) → List Value → Prop
  | [], xs => xs = []
  | o :: r, xs => ∃ va ys, xs = [.string (st o.1), va, .string (st []), .slice none 0 0] ++ ys ∧ AtsV w K va o.2 ∧ OCells w K r ys
theorem OCells.frame {w w' : World} {K K' : Nat → Prop} (hk : ∀ b, K b → K' b ∧ w'.heap[b]? = w.heap[b]?) : ∀ {l : List (Mk.Bs × List Mk.At)} {xs : List Value}, OCells w K l xs → OCells w' K' l xs
  | [], _, h => h
  | _ :: _, _, ⟨va, ys, h1, h2, h3⟩ => ⟨va, ys, h1, h2.frame hk, OCells.frame hk h3⟩
theorem OCells.length {w : World} {K : Nat → Prop} : ∀ {l : List (Mk.Bs × List Mk.At)} {xs : List Value}, OCells w K l xs → xs.length = l.length * 4
  | [], _, h => by rw [h]; rfl
  | t :: r, _, ⟨va, ys, h1, _, h3⟩ => by rw [h1, List.length_append, h3.length, List.length_cons]; simp; omega
theorem OCells.snoc {w : World} {K : Nat → Prop} {n : List UInt8} {a : List Mk.At} {va : Value} (ha : AtsV w K va a) : ∀ {l : List (Mk.Bs × List Mk.At)} {xs : List Value}, OCells w K l xs → OCells w K (l ++ [(n, a)]) (xs ++ [.string (st n), va, .string (st []), .slice none 0 0])
  | [], _, h => by rw [h]; exact ⟨va, [], rfl, ha, rfl⟩
  | _ :: _, _, ⟨vb, ys, h1, h2, h3⟩ => ⟨vb, _, by rw [h1, List.append_assoc], h2, h3.snoc ha⟩
theorem OCells.last {w : World} {K : Nat → Prop} {n : List UInt8} {a : List Mk.At} : ∀ {l : List (Mk.Bs × List Mk.At)} {xs : List Value}, OCells w K (l ++ [(n, a)]) xs → ∃ va ys, xs = ys ++ [.string (st n), va, .string (st []), .slice none 0 0] ∧ AtsV w K va a ∧ OCells w K l ys
  | [], _, ⟨va, ys, h1, h2, h3⟩ => ⟨va, [], by rw [h1, show ys = [] from h3]; rfl, h2, rfl⟩
  | o :: r, _, ⟨vb, ys, h1, h2, h3⟩ => by
    obtain ⟨va, zs, e1, e2, e3⟩ := OCells.last h3
    exact ⟨va, _ ++ zs, by rw [h1, e1, List.append_assoc], e2, vb, zs, rfl, h2, e3⟩
theorem OCells.at_ {w : World} {K : Nat → Prop} : ∀ {l : List (Mk.Bs × List Mk.At)} {xs : List Value}, OCells w K l xs → ∀ (i : Nat) (n : List UInt8) (a : List Mk.At), l[i]? = some (n, a) → ∃ va, AtsV w K va a ∧ xs[i * 4]? = some (.string (st n)) ∧ xs[i * 4 + 1]? = some va ∧ xs[i * 4 + 2]? = some (.string (st [])) ∧ xs[i * 4 + 3]? = some (.slice none 0 0)
  | [], _, _, i, n, a, hi => by simp at hi
  | o :: r, _, ⟨vb, ys, h1, h2, h3⟩, 0, n, a, hi => by
    simp at hi
    subst hi
    rw [h1]
    exact ⟨vb, h2, rfl, rfl, rfl, rfl⟩
  | o :: r, _, ⟨vb, ys, h1, h2, h3⟩, i + 1, n, a, hi => by
    obtain ⟨va, e0, e1, e2, e3, e4⟩ := OCells.at_ h3 i n a (by simpa using hi)
    rw [h1]
    refine ⟨va, e0, ?_, ?_, ?_, ?_⟩
    · rw [show (i + 1) * 4 = i * 4 + 4 by omega, List.getElem?_append_right (by simp)]; simpa using e1
    · rw [show (i + 1) * 4 + 1 = i * 4 + 1 + 4 by omega, List.getElem?_append_right (by simp)]; simpa using e2
    · rw [show (i + 1) * 4 + 2 = i * 4 + 2 + 4 by omega, List.getElem?_append_right (by simp)]; simpa using e3
    · rw [show (i + 1) * 4 + 3 = i * 4 + 3 + 4 by omega, List.getElem?_append_right (by simp)]; simpa using e4

/-- a builder. -/
structure BldV (w : World) (B P : Nat) (K : Nat → Prop) (fs : List Mk.Fo) (os : List (Mk.Bs × List Mk.At)) (vn vo : Value) (ns xo : List Value) : Prop where
  blk : Blk w P 107 #[vn, vo]
  hP : B ≤ P
  nK : ¬ K P
  kle : ∀ b, K b → B ≤ b ∧ b < w.heap.size
  rn : w.ownsRow B 22 1 vn fs.length ns
  ro : w.ownsRow B 52 4 vo os.length xo
  oc : OCells w K os xo
  fo : ∀ (i : Nat) (f : Mk.Fo) (v : Value), fs[i]? = some f → ns[i]? = some v → ∃ xs, OwnF w B K v f xs
  dn : ∀ g, vn.ownBlock = some g → g ≠ P ∧ ¬ K g
  do_ : ∀ g, vo.ownBlock = some g → g ≠ P ∧ ¬ K g ∧ vn.ownBlock ≠ some g
  df : ∀ (i : Nat) (v : Value) (g : Nat), ns[i]? = some v → v.ownBlock = some g → g ≠ P ∧ vn.ownBlock ≠ some g ∧ vo.ownBlock ≠ some g ∧ ∀ (j : Nat) (u : Value), ns[j]? = some u → u.ownBlock = some g → i = j
section
variable {w w' : World} {B P : Nat} {K K' : Nat → Prop} {fs L : List Mk.Fo} {os : List (Mk.Bs × List Mk.At)} {vn vo : Value} {ns xo : List Value}
theorem own_keep {size n : Nat} {e : TypeId} {v : Value} {xs : List Value} (h : w.ownsRow B e size v n xs) (hk : ∀ g, v.ownBlock = some g → w'.heap[g]? = w.heap[g]?) : w'.ownsRow B e size v n xs := by
  refine ⟨h.1, h.2.imp id ?_⟩
  rintro ⟨g, cap, cur, h1, h2, h3, h4⟩
  exact ⟨g, cap, cur, h1, h2, (hk g (by rw [h1]; rfl)).trans h3, h4⟩
theorem BldV.nlen (h : BldV w B P K fs os vn vo ns xo) : ns.length = fs.length := by have := h.rn.1; omega
theorem BldV.below (h : BldV w B P K fs os vn vo ns xo) (hb : Below w.heap.size w w') : BldV w' B P K fs os vn vo ns xo :=
  ⟨(hb.block P (Blk.lt h.blk)).trans h.blk, h.hP, h.nK, fun b q => ⟨(h.kle b q).1, Nat.lt_of_lt_of_le (h.kle b q).2 hb.size⟩,
   own_keep h.rn fun g hg => hb.block g (h.rn.lt g hg).2, own_keep h.ro fun g hg => hb.block g (h.ro.lt g hg).2,
   h.oc.frame fun b q => ⟨q, hb.block b (h.kle b q).2⟩,
   fun i f v h1 h2 => by
     obtain ⟨xs, o⟩ := h.fo i f v h1 h2
     exact ⟨xs, o.frame hb.size fun b q _ => hb.block b q⟩,
   h.dn, h.do_, h.df⟩
theorem BldV.blt (h : BldV w B P K fs os vn vo ns xo) : B ≤ w.heap.size := Nat.le_trans h.hP (Nat.le_of_lt (Blk.lt h.blk))
/-- more blocks that stay. -/
theorem BldV.more (h : BldV w B P K fs os vn vo ns xo) (hK : ∀ b, K b → K' b) (h1 : ∀ b, K' b → B ≤ b ∧ b < w.heap.size) (h2 : ∀ b, K' b → b ≠ P ∧ vn.ownBlock ≠ some b ∧ vo.ownBlock ≠ some b ∧ ∀ (i : Nat) (v : Value), ns[i]? = some v → v.ownBlock ≠ some b) : BldV w B P K' fs os vn vo ns xo :=
  ⟨h.blk, h.hP, fun q => (h2 P q).1 rfl, h1, h.rn, h.ro, h.oc.frame fun b q => ⟨hK b q, rfl⟩,
   fun i f v e1 e2 => by
     obtain ⟨xs, o⟩ := h.fo i f v e1 e2
     exact ⟨xs, o.own, o.cells.frame (fun b q => ⟨hK b q, rfl⟩), fun g hg q => (h2 g q).2.2.2 i v e2 hg, fun b q => (h1 b q).2⟩,
   fun g hg => ⟨(h.dn g hg).1, fun q => (h2 g q).2.1 hg⟩, fun g hg => ⟨(h.do_ g hg).1, fun q => (h2 g q).2.2.1 hg, (h.do_ g hg).2.2⟩, h.df⟩
theorem BldV.own_at (h : BldV w B P K fs os vn vo ns xo) {i : Nat} {v : Value} (hv : ns[i]? = some v) : ∃ f xs, OwnF w B K v f xs ∧ i < ns.length := by
  have h1 : i < ns.length := by
    rcases Nat.lt_or_ge i ns.length with q | q
    · exact q
    · rw [List.getElem?_eq_none q] at hv; cases hv
  have h2 : i < fs.length := by rw [← h.nlen]; exact h1
  obtain ⟨xs, o⟩ := h.fo i fs[i] v (List.getElem?_eq_getElem h2) hv
  exact ⟨_, xs, o, h1⟩
theorem getElem?_last {α : Type _} (l : List α) (x : α) (n : Nat) (h : n = l.length) : (l ++ [x])[n]? = some x := by subst h; simp
/-- the innermost forest. -/
theorem BldV.last {f : Mk.Fo} (h : BldV w B P K (L ++ [f]) os vn vo ns xo) : ∃ g cap v xs, vn = .slice (some ⟨g, 0, none⟩) (L.length + 1) cap ∧ w.cell? ⟨g, L.length, none⟩ = some v ∧ ns[L.length]? = some v ∧ OwnF w B K v f xs ∧ (∀ i, w.frozen? ⟨g, i, none⟩ = false) := by
  rcases h.rn.2 with ⟨_, h0⟩ | ⟨g, cap, cur, hv, hb, hh, hnc, hcm, hcs, ht⟩
  · simp at h0
  · have hl := h.nlen
    rw [List.length_append, List.length_singleton] at hl hv
    have hi : L.length < ns.length := by omega
    have hv1 : ns[L.length]? = some ns[L.length] := List.getElem?_eq_getElem hi
    obtain ⟨xs, ho⟩ := h.fo L.length f _ (getElem?_last L f _ rfl) hv1
    have hc := h.rn.cells (g := g) (by rw [hv]; rfl) _ _ hv1
    have e0 : ∀ j, (⟨g, 0, none⟩ : Addr).add j = ⟨g, j, none⟩ := by intro j; unfold Addr.add; split <;> simp_all
    rw [e0] at hc
    exact ⟨g, cap, _, xs, hv, hc, hv1, ho, fun i => by simp [World.frozen?, hh]⟩
/-- the innermost forest turns where it lies. -/
theorem BldV.turn {f f' : Mk.Fo} {v : Value} {xs : List Value} (h : BldV w B P K (L ++ [f]) os vn vo ns xo) (hv : ns[L.length]? = some v) (ho : OwnF w' B K v f' xs) (hs : w.heap.size ≤ w'.heap.size) (hb : ∀ b, b < w.heap.size → v.ownBlock ≠ some b → w'.heap[b]? = w.heap[b]?) : BldV w' B P K (L ++ [f']) os vn vo ns xo := by
  have hd := h.df L.length v
  have kp : ∀ b, K b → K b ∧ w'.heap[b]? = w.heap[b]? := fun b q => ⟨q, hb b (h.kle b q).2 fun e => ho.ne b e q⟩
  refine ⟨(hb P (Blk.lt h.blk) fun e => (hd P hv e).1 rfl).trans h.blk, h.hP, h.nK, fun b q => ⟨(h.kle b q).1, Nat.lt_of_lt_of_le (h.kle b q).2 hs⟩,
    own_keep (by have := h.rn; rwa [List.length_append] at this ⊢) fun g hg => hb g (h.rn.lt g hg).2 fun e => (hd g hv e).2.1 hg, own_keep h.ro fun g hg => hb g (h.ro.lt g hg).2 fun e => (hd g hv e).2.2.1 hg,
    h.oc.frame kp, ?_, h.dn, h.do_, h.df⟩
  intro i f1 v1 e1 e2
  rcases Nat.lt_trichotomy i L.length with hi | hi | hi
  · rw [List.getElem?_append_left hi] at e1
    obtain ⟨xs1, o⟩ := h.fo i f1 v1 (by rw [List.getElem?_append_left hi]; exact e1) e2
    refine ⟨xs1, o.frame hs fun b q1 q2 => hb b q1 fun e => ?_⟩
    rcases q2 with q2 | q2
    · exact ho.ne b e q2
    · have := (hd b hv e).2.2.2 i v1 e2 q2
      omega
  · subst hi
    rw [getElem?_last L f' _ rfl] at e1
    injection e1 with e1
    rw [hv] at e2
    injection e2 with e2
    subst e1; subst e2
    exact ⟨xs, ho⟩
  · rw [List.getElem?_eq_none (by simp; omega)] at e1
    cases e1
/-- the innermost forest turns, and its row may move. -/
theorem BldV.swap {f f' : Mk.Fo} {v v' : Value} {xs : List Value} {gn : Nat} (h : BldV w B P K (L ++ [f]) os vn vo ns xo) (hn : vn.ownBlock = some gn) (hv : ns[L.length]? = some v) (ho : OwnF w' B K v' f' xs) (hs : w.heap.size ≤ w'.heap.size)
    (hfr : v'.ownBlock = v.ownBlock ∨ ∃ g, v'.ownBlock = some g ∧ w.heap.size ≤ g) (hb : ∀ b, b < w.heap.size → v.ownBlock ≠ some b → b ≠ gn → w'.heap[b]? = w.heap[b]?)
    (hrn : w'.ownsRow B 22 1 vn (L.length + 1) (ns.set L.length v')) (hnK : ∀ g, v.ownBlock = some g → ¬ K g) : BldV w' B P K (L ++ [f']) os vn vo (ns.set L.length v') xo := by
  have hd := h.df L.length v
  have kp : ∀ b, K b → K b ∧ w'.heap[b]? = w.heap[b]? := fun b q => ⟨q, hb b (h.kle b q).2 (fun e => hnK b e q) (fun e => (h.dn gn hn).2 (e ▸ q))⟩
  have hil : L.length < ns.length := by have := h.nlen; simp at this; omega
  have fr : ∀ g, v'.ownBlock = some g → v.ownBlock = some g ∨ w.heap.size ≤ g := by
    intro g hg
    rcases hfr with e | ⟨b, e, hle⟩
    · exact .inl (by rw [← e]; exact hg)
    · rw [e] at hg; injection hg with hg; exact .inr (by omega)
  have hPl := Blk.lt h.blk
  have nw : ∀ g, v'.ownBlock = some g → g ≠ P ∧ vn.ownBlock ≠ some g ∧ vo.ownBlock ≠ some g := by
    intro g hg
    rcases fr g hg with e | e
    · exact ⟨(hd g hv e).1, (hd g hv e).2.1, (hd g hv e).2.2.1⟩
    · refine ⟨by omega, fun q => ?_, fun q => ?_⟩
      · have := (h.rn.lt g q).2; omega
      · have := (h.ro.lt g q).2; omega
  refine ⟨(hb P hPl (fun e => (hd P hv e).1 rfl) (fun e => (h.dn gn hn).1 e.symm)).trans h.blk, h.hP, h.nK, fun b q => ⟨(h.kle b q).1, Nat.lt_of_lt_of_le (h.kle b q).2 hs⟩,
    by rw [List.length_append]; exact hrn, own_keep h.ro fun g hg => hb g (h.ro.lt g hg).2 (fun e => (hd g hv e).2.2.1 hg) (fun e => (h.do_ g hg).2.2 (by rw [hn, e])),
    h.oc.frame kp, ?_, h.dn, h.do_, ?_⟩
  · intro i f1 v1 e1 e2
    rcases Nat.lt_trichotomy i L.length with hi | hi | hi
    · rw [List.getElem?_append_left hi] at e1
      rw [List.getElem?_set_ne (by omega)] at e2
      obtain ⟨xs1, o⟩ := h.fo i f1 v1 (by rw [List.getElem?_append_left hi]; exact e1) e2
      refine ⟨xs1, o.frame hs fun b q1 q2 => ?_⟩
      rcases q2 with q2 | q2
      · exact (kp b q2).2
      · refine hb b q1 (fun e => ?_) (fun e => (h.df i v1 b e2 q2).2.1 (by rw [hn, e]))
        have := (hd b hv e).2.2.2 i v1 e2 q2
        omega
    · subst hi
      rw [getElem?_last L f' _ rfl] at e1
      injection e1 with e1
      rw [List.getElem?_set_self hil] at e2
      injection e2 with e2
      subst e1; subst e2
      exact ⟨xs, ho⟩
    · rw [List.getElem?_eq_none (by simp; omega)] at e1
      cases e1
  · intro i u g e1 e2
    rcases Nat.lt_trichotomy i L.length with hi | hi | hi
    · rw [List.getElem?_set_ne (by omega)] at e1
      obtain ⟨a1, a2, a3, a4⟩ := h.df i u g e1 e2
      refine ⟨a1, a2, a3, fun j x e3 e4 => ?_⟩
      by_cases hj : j = L.length
      · subst hj
        rw [List.getElem?_set_self hil] at e3
        injection e3 with e3
        subst e3
        rcases fr g e4 with e | e
        · exact a4 _ _ hv e
        · obtain ⟨_, xs1, o, _⟩ := h.own_at e1
          have := (o.own.lt g e2).2
          omega
      · rw [List.getElem?_set_ne (by omega)] at e3
        exact a4 j x e3 e4
    · subst hi
      rw [List.getElem?_set_self hil] at e1
      injection e1 with e1
      subst e1
      obtain ⟨a1, a2, a3⟩ := nw g e2
      refine ⟨a1, a2, a3, fun j x e3 e4 => ?_⟩
      by_cases hj : j = L.length
      · exact hj.symm
      · rw [List.getElem?_set_ne (by omega)] at e3
        rcases fr g e2 with e | e
        · exact (hd g hv e).2.2.2 j x e3 e4
        · obtain ⟨_, xs1, o, _⟩ := h.own_at e3
          have := (o.own.lt g e4).2
          omega
    · rw [List.getElem?_set_ne (by omega)] at e1
      have h1 : i < ns.length := by
        rcases Nat.lt_or_ge i ns.length with q | q
        · exact q
        · rw [List.getElem?_eq_none q] at e1; cases e1
      have := h.nlen
      simp at this
      omega
end
end Go.Proofs.YteidgdpaolieaaaGreatDoor

/- A push into a tree's builder in memory. No program in sight. -/
namespace Go.Proofs.YteidgdpaolieaaaGreatDoor
open Go.RowKit
theorem setCell_os (w : World) (p : Addr) (v : Value) : (w.setCell p v).os = w.os:=rfl
theorem setCell_tape (w : World) (p : Addr) (v : Value) : (w.setCell p v).tape = w.tape:=rfl
theorem setCell_output (w : World) (p : Addr) (v : Value) : (w.setCell p v).output = w.output:=rfl
theorem heap_comm (w : World) (p q : Addr) (u v : Value) (h : p.block ≠ q.block) : ((w.setCell p u).setCell q v).heap = ((w.setCell q v).setCell p u).heap:=by
 apply Array.ext_getElem?
 intro b
 simp only [World.setCell,Array.getElem?_modify]
 by_cases h1 : p.block = b
 ·have h2 : ¬ q.block = b:=fun e=>h (h1.trans e.symm)
  simp [h1,h2]
 ·simp [h1]
theorem heap_set (w w' : World) (h : w.heap = w'.heap) (p : Addr) (u : Value) : (w.setCell p u).heap = (w'.setCell p u).heap:=by
 simp only [World.setCell,h]
theorem heap_comm5 (w : World) (q p0 p1 p2 p3 : Addr) (v u0 u1 u2 u3 : Value) (h0 : p0.block ≠ q.block) (h1 : p1.block ≠ q.block) (h2 : p2.block ≠ q.block) (h3 : p3.block ≠ q.block) :
  (((((w.setCell q v).setCell p0 u0).setCell p1 u1).setCell p2 u2).setCell p3 u3).heap = (((((w.setCell p0 u0).setCell p1 u1).setCell p2 u2).setCell p3 u3).setCell q v).heap:=by
 rw [heap_comm _ p3 q u3 v h3]
 apply heap_set
 rw [heap_comm _ p2 q u2 v h2]
 apply heap_set
 rw [heap_comm _ p1 q u1 v h1]
 apply heap_set
 exact (heap_comm _ p0 q u0 v h0).symm
theorem and_fin {A B C : Prop} (h : A∧B) (f : B→C) : A∧C:=⟨h.1,f h.2⟩
theorem set4 {xs : List Value} {m : Nat} (h : xs.length = m) (a b c d a' b' c' d' : Value) : ((((xs++[a,b,c,d]).set m a').set (m + 1) b').set (m + 2) c').set (m + 3) d' = xs++[a',b',c',d']:=by
 subst h
 simp [List.set_append_right]
section
variable {w1 w9 w10 : World} {B P gn capn : Nat} {K : Nat→Prop} {L : List Mk.Fo} {f : Mk.Fo} {os : List (Mk.Bs × List Mk.At)} {vo v' : Value} {ns xo xs : List Value} {ao0 : Option Addr} {cap0 : Nat}
theorem bld_pushed (h : BldV w1 B P K (L++[f]) os (.slice (some ⟨gn,0,none⟩) (L.length + 1) capn) vo ns xo) (hns : ns[L.length]? = some (.slice ao0 f.len cap0)) (hcn : w1.cell? ⟨gn,L.length,none⟩ = some (.slice ao0 f.len cap0))
  (hx : xs.length = f.len * 4) (hb9 : Below w1.heap.size w1 w9) (hown : w10.ownsRow B 52 4 v' (f.len + 1) (xs++[.string ⟨#[]⟩,.slice none 0 0,.string ⟨#[]⟩,.slice none 0 0])) (hg : w9.grownBy w10 (Value.slice ao0 f.len cap0).ownBlock)
  (hf : v'.ownBlock = (Value.slice ao0 f.len cap0).ownBlock ∨ v'.ownBlock = some w9.heap.size) :
  ∃ g' cap',v' = .slice (some ⟨g',0,none⟩) (f.len + 1) cap'∧w10.cell? ⟨g',f.len * 4,none⟩ = some (.string ⟨#[]⟩)∧w10.cell? ⟨g',f.len * 4 + 1,none⟩ = some (.slice none 0 0)∧w10.cell? ⟨g',f.len * 4 + 2,none⟩ = some (.string ⟨#[]⟩)∧w10.cell? ⟨g',f.len * 4 + 3,none⟩ = some (.slice none 0 0)∧(∀ i,w10.frozen? ⟨g',i,none⟩ = false)∧w10.cell? ⟨gn,L.length,none⟩ = some (.slice ao0 f.len cap0)∧w10.frozen? ⟨gn,L.length,none⟩ = false∧gn ≠ g'∧(∀ b,b < w1.heap.size→(Value.slice ao0 f.len cap0).ownBlock ≠ some b→w10.heap[b]? = w1.heap[b]?):=by
 have hgn : (Value.slice (some ⟨gn,0,none⟩) (L.length + 1) capn).ownBlock = some gn:=rfl
 have hgl:=(h.rn.lt gn hgn).2
 have hne0 : (Value.slice ao0 f.len cap0).ownBlock ≠ some gn:=fun e=>(h.df _ _ gn hns e).2.1 rfl
 have hw : w10.heap[gn]? = w1.heap[gn]?:=(hg.block gn (Nat.lt_of_lt_of_le hgl hb9.size) (fun e=>hne0 e.symm)).trans (hb9.block gn hgl)
 rcases hown.2 with ⟨_,h0⟩ | ⟨g',cap',cur,hv,hb,hh,hnc,hcm,hcs,ht⟩
 ·omega
 ·have hc:=hown.cells (g:=g') (by rw [hv];rfl)
  have e0 : ∀ j,(⟨g',0,none⟩ : Addr).add j = ⟨g',j,none⟩:=by intro j;unfold Addr.add;split <;> simp_all
  have hcc : ∀ i u,[Value.string ⟨#[]⟩,.slice none 0 0,.string ⟨#[]⟩,.slice none 0 0][i]? = some u→w10.cell? ⟨g',f.len * 4 + i,none⟩ = some u:=by
   intro i u hu
   have:=hc (f.len * 4 + i) u (by rw [List.getElem?_append_right (by omega),hx];simpa using hu)
   rwa [e0] at this
  refine ⟨g',cap',hv,hcc 0 _ rfl,hcc 1 _ rfl,hcc 2 _ rfl,hcc 3 _ rfl,fun i=>by simp [World.frozen?,hh],(cell_of_block hw _).trans hcn,?_,?_,fun b h1 h2=>(hg.block b (Nat.lt_of_lt_of_le h1 hb9.size) (fun e=>h2 e.symm)).trans (hb9.block b h1)⟩
  ·obtain ⟨g2,cap2,cur2,hv2,_,hh2,_⟩ : ∃ g2 cap2 cur2,(Value.slice (some ⟨gn,0,none⟩) (L.length + 1) capn) = .slice (some ⟨g2,0,none⟩) (L.length + 1) cap2∧B≤g2∧w1.heap[g2]? = some (.cells cur2 22 (0,0))∧True:=by
    rcases h.rn.2 with ⟨hq,_⟩ | ⟨g2,cap2,cur2,hv2,hb2,hh2,_⟩
    ·cases hq
    ·exact ⟨g2,cap2,cur2,by rw [List.length_append] at hv2;exact hv2,hb2,hh2,trivial⟩
   injection hv2 with hv2 _ _
   injection hv2 with hv2
   injection hv2 with hv2
   subst hv2
   simp [World.frozen?,hw,hh2]
  ·rintro rfl
   rcases hf with e | e
   ·rw [hv] at e;exact hne0 e.symm
   ·rw [hv] at e
    have e : some gn = some w9.heap.size:=e
    injection e with e
    have:=hb9.size
    omega
set_option maxHeartbeats 4000000 in
theorem bld_done (h : BldV w1 B P K (L++[f]) os (.slice (some ⟨gn,0,none⟩) (L.length + 1) capn) vo ns xo) (hns : ns[L.length]? = some (.slice ao0 f.len cap0)) (hof : OwnF w1 B K (.slice ao0 f.len cap0) f xs) (hb9 : Below w1.heap.size w1 w9) {g' cap' : Nat}
  (hown : w10.ownsRow B 52 4 (.slice (some ⟨g',0,none⟩) (f.len + 1) cap') (f.len + 1) (xs++[.string ⟨#[]⟩,.slice none 0 0,.string ⟨#[]⟩,.slice none 0 0])) (hg : w9.grownBy w10 (Value.slice ao0 f.len cap0).ownBlock)
  (hf : (Value.slice (some ⟨g',0,none⟩) (f.len + 1) cap').ownBlock = (Value.slice ao0 f.len cap0).ownBlock ∨ (Value.slice (some ⟨g',0,none⟩) (f.len + 1) cap').ownBlock = some w9.heap.size) (hgg : gn ≠ g')
  {n : List UInt8} {a : List Mk.At} {t : List UInt8} {k : Mk.Fo} {va : Value} {ao : Option Addr} {cap : Nat} {zs : List Value} (h2 : AtsV w1 K va a) (h3 : RowAt w1 K ao zs) (h4 : k.len≤maxLen) (h5 : FCells w1 K k zs) (hm : f.merges n = false) {wF : World}
  (hF : wF.heap = (((((w10.setCell ⟨g',f.len * 4,none⟩ (.string (st n))).setCell ⟨g',f.len * 4 + 1,none⟩ va).setCell ⟨g',f.len * 4 + 2,none⟩ (.string (st t))).setCell ⟨g',f.len * 4 + 3,none⟩ (.slice ao k.len cap)).setCell ⟨gn,L.length,none⟩ (.slice (some ⟨g',0,none⟩) (f.len + 1) cap')).heap ∨ wF.heap = (((((w10.setCell ⟨gn,L.length,none⟩ (.slice (some ⟨g',0,none⟩) (f.len + 1) cap')).setCell ⟨g',f.len * 4,none⟩ (.string (st n))).setCell ⟨g',f.len * 4 + 1,none⟩ va).setCell ⟨g',f.len * 4 + 2,none⟩ (.string (st t))).setCell ⟨g',f.len * 4 + 3,none⟩ (.slice ao k.len cap)).heap) (ho : wF.os = w10.os) (htp : wF.tape = w10.tape) (hout : wF.output = w10.output) :
  (∃ ns',BldV wF B P K (L++[Mk.Fo.snoc n a t k f]) os (.slice (some ⟨gn,0,none⟩) (L.length + 1) capn) vo ns' xo)∧Ap (fun b=>B≤b∧¬ K b) w1 wF:=by
 have hF : wF.heap = (((((w10.setCell ⟨g',f.len * 4,none⟩ (.string (st n))).setCell ⟨g',f.len * 4 + 1,none⟩ va).setCell ⟨g',f.len * 4 + 2,none⟩ (.string (st t))).setCell ⟨g',f.len * 4 + 3,none⟩ (.slice ao k.len cap)).setCell ⟨gn,L.length,none⟩ (.slice (some ⟨g',0,none⟩) (f.len + 1) cap')).heap:=by
  rcases hF with h | h
  ·exact h
  ·exact h.trans (heap_comm5 _ _ _ _ _ _ _ _ _ _ _ (fun e=>hgg e.symm) (fun e=>hgg e.symm) (fun e=>hgg e.symm) (fun e=>hgg e.symm))
 have hgn : (Value.slice (some ⟨gn,0,none⟩) (L.length + 1) capn).ownBlock = some gn:=rfl
 have hg' : (Value.slice (some ⟨g',0,none⟩) (f.len + 1) cap').ownBlock = some g':=rfl
 have hgl:=h.rn.lt gn hgn
 have hlen:=hof.cells.length
 have S1:=own_set hown hg' (f.len * 4) (.string (st n))
 have S2:=own_set S1 hg' (f.len * 4 + 1) va
 have S3:=own_set S2 hg' (f.len * 4 + 2) (.string (st t))
 have S4:=own_set S3 hg' (f.len * 4 + 3) (.slice ao k.len cap)
 rw [set4 hlen] at S4
 have S5:=ownsRow_setCell_other S4 (a:=⟨gn,L.length,none⟩) (by rw [hg'];intro e;injection e with e;exact hgg e.symm) (.slice (some ⟨g',0,none⟩) (f.len + 1) cap')
 have SF : wF.ownsRow B 52 4 (.slice (some ⟨g',0,none⟩) (f.len + 1) cap') (f.len + 1) (xs++[.string (st n),va,.string (st t),.slice ao k.len cap]):=own_keep S5 (fun g _=>by rw [hF])
 have hbF : ∀ b,b ≠ g'→b ≠ gn→wF.heap[b]? = w10.heap[b]?:=by
  intro b h1 h2
  rw [hF,Below.heap_setCell _ ⟨gn,L.length,none⟩ _ b h2,Below.heap_setCell _ ⟨g',f.len * 4 + 3,none⟩ _ b h1,Below.heap_setCell _ ⟨g',f.len * 4 + 2,none⟩ _ b h1,Below.heap_setCell _ ⟨g',f.len * 4 + 1,none⟩ _ b h1,Below.heap_setCell _ ⟨g',f.len * 4,none⟩ _ b h1]
 have fr : g' < w1.heap.size→(Value.slice ao0 f.len cap0).ownBlock = some g':=by
  intro hlt
  rcases hf with e | e
  ·rw [← e];exact hg'
  ·rw [hg'] at e;injection e with e;have:=hb9.size;omega
 have hsz : w10.heap.size = wF.heap.size:=by rw [hF];simp [World.setCell]
 have hs : w1.heap.size≤wF.heap.size:=by rw [← hsz];exact Nat.le_trans hb9.size hg.size
 have hb : ∀ b,b < w1.heap.size→(Value.slice ao0 f.len cap0).ownBlock ≠ some b→b ≠ gn→wF.heap[b]? = w1.heap[b]?:=by
  intro b h1 h2 h3
  rw [hbF b (by rintro rfl;exact h2 (fr h1)) h3,hg.block b (Nat.lt_of_lt_of_le h1 hb9.size) (fun e=>h2 e.symm),hb9.block b h1]
 have hKn : ∀ b,K b→wF.heap[b]? = w1.heap[b]?:=fun b q=>hb b (hof.le b q) (fun e=>hof.ne b e q) (fun e=>(h.dn gn hgn).2 (e ▸ q))
 have hne0 : (Value.slice ao0 f.len cap0).ownBlock ≠ some gn:=fun e=>(h.df _ _ gn hns e).2.1 rfl
 have hw : w10.heap[gn]? = w1.heap[gn]?:=(hg.block gn (Nat.lt_of_lt_of_le hgl.2 hb9.size) (fun e=>hne0 e.symm)).trans (hb9.block gn hgl.2)
 refine ⟨⟨_,h.swap hgn hns (v':=.slice (some ⟨g',0,none⟩) (f.len + 1) cap') (f':=Mk.Fo.snoc n a t k f) (xs:=xs++[.string (st n),va,.string (st t),.slice ao k.len cap]) ⟨?_,?_,?_,?_⟩ hs ?_ hb ?_ hof.ne⟩,?_⟩
 ·rw [Mk.Fo.snoc_len_push f n a t k hm];exact SF
 ·exact (FCells.push h2 h3 h4 h5 f xs hof.cells hm).frame fun b q=>⟨q,hKn b q⟩
 ·intro g e q
  rw [hg'] at e
  injection e with e
  subst e
  exact hof.ne _ (fr (hof.le _ q)) q
 ·exact fun b q=>Nat.lt_of_lt_of_le (hof.le b q) hs
 ·rcases hf with e | e
  ·exact .inl e
  ·exact .inr ⟨_,e,hb9.size⟩
 ·have hrn:=h.rn
  rw [List.length_append] at hrn
  have R10 : w10.ownsRow B 22 1 (.slice (some ⟨gn,0,none⟩) (L.length + 1) capn) (L.length + 1) ns:=own_keep hrn (fun g e=>by rw [hgn] at e;injection e with e;rw [← e];exact hw)
  have R11:=own_keep R10 (w':=(((w10.setCell ⟨g',f.len * 4,none⟩ (.string (st n))).setCell ⟨g',f.len * 4 + 1,none⟩ va).setCell ⟨g',f.len * 4 + 2,none⟩ (.string (st t))).setCell ⟨g',f.len * 4 + 3,none⟩ (.slice ao k.len cap)) (fun g e=>by
   rw [hgn] at e
   injection e with e
   have h1 : g ≠ g':=by rw [← e];exact hgg
   rw [Below.heap_setCell _ ⟨g',f.len * 4 + 3,none⟩ _ g h1,Below.heap_setCell _ ⟨g',f.len * 4 + 2,none⟩ _ g h1,Below.heap_setCell _ ⟨g',f.len * 4 + 1,none⟩ _ g h1,Below.heap_setCell _ ⟨g',f.len * 4,none⟩ _ g h1])
  exact own_keep (own_set R11 hgn L.length (.slice (some ⟨g',0,none⟩) (f.len + 1) cap')) (fun g _=>by rw [hF])
 ·refine ⟨ho.trans (hg.os.trans hb9.os),htp.trans (hg.tape.trans hb9.tape),hout.trans (hg.output.trans hb9.output),hs,fun b h1 h2=>?_⟩
  by_cases hB : B≤b
  ·have q : K b:=Classical.byContradiction fun q=>h2 ⟨hB,q⟩
   exact hKn b q
  ·refine hb b h1 (fun e=>?_) (fun e=>?_)
   ·have:=(hof.own.lt b e).1;omega
   ·have:=hgl.1;omega
end
end Go.Proofs.YteidgdpaolieaaaGreatDoor

/- Contract of the program's put of a tree's builder: a node into the innermost element. Condition: at most 1099511627776 nodes, attributes and letters together. -/
namespace Go.Proofs.YteidgdpaolieaaaGreatDoor
open Go.RowKit
set_option maxHeartbeats 8000000 in
set_option maxRecDepth 100000 in
theorem tr_put {w : World} {B P : Nat} {K : Nat→Prop} {L : List Mk.Fo} {f : Mk.Fo} {os : List (Mk.Bs × List Mk.At)} {vn vo : Value} {ns xo : List Value} (h : BldV w B P K (L++[f]) os vn vo ns xo) (n : List UInt8) (a : List Mk.At) (t : List UInt8) (k : Mk.Fo) (va : Value) (hva : AtsV w K va a) (ao : Option Addr) (cap : Nat) (zs : List Value) (hvk2 : RowAt w K ao zs) (hvk3 : FCells w K k zs) (hvk4 : k.len≤maxLen)
  (hbk : f.bulk + (1 + n.length + t.length + Mk.Fo.atB a + k.bulk)≤1099511627776) (hL : L.length≤1048576) :
  Calls Tryz.prog 127 #[.pointer (some ⟨P,0,none⟩),nodeV n va t (.slice ao k.len cap)] w fun e w'=>e = .returned (.tuple #[])∧(∃ ns',BldV w' B P K (L++[Mk.Fo.snoc n a t k f]) os vn vo ns' xo)∧Ap (fun b=>B≤b∧¬ K b) w w':=by
 have hst : ∀ l : List UInt8,(st l).toList = l:=fun l=>Lib.toList_data _
 obtain ⟨aoa,capa,hva1,hva2⟩:=id hva
 subst hva1
 have H:=Lib.hid h
 have HVA:=Lib.hid hva
 have HVK:=Lib.hid hvk2
 have HVF:=Lib.hid hvk3
 obtain ⟨gn,capn,v,xs,hvn,hcn,hns,hof,hfr⟩:=h.last
 subst hvn
 obtain ⟨ao0,cap0,hu0⟩:=own_slice hof.own
 subst hu0
 have hal:=(Below.refl w.heap.size w).alloc (Nat.le_refl _) (.cells #[.string (st n),.slice aoa a.length capa,.string (st t),.slice ao k.len cap] 52)
 have PB:=Lib.hid (Blk.new w 52 #[.string (st n),.slice aoa a.length capa,.string (st t),.slice ao k.len cap])
 have H1:=Lib.hid (h.below hal)
 have hvnb : (Value.slice (some ⟨gn,0,none⟩) (L.length + 1) capn).ownBlock = some gn:=rfl
 have hgl:=(h.rn.lt gn hvnb).2
 have hgP:=(h.dn gn hvnb).1
 have hPl:=Blk.lt h.blk
 have OF1:=Lib.hid (hof.frame hal.size (fun b hb _=>hal.block b hb))
 have HAL:=Lib.hid hal
 have HNS:=Lib.hid hns
 have HNE0 : Hid ((Value.slice ao0 f.len cap0).ownBlock ≠ some w.heap.size):=by
  intro e
  have:=(hof.own.lt _ e).2
  omega
 have e1 : (w.alloc (.cells #[.string (st n),.slice aoa a.length capa,.string (st t),.slice ao k.len cap] 52)).cell? ⟨gn,L.length,none⟩ = some (.slice ao0 f.len cap0):=(cell_of_block (hal.block gn hgl) _).trans hcn
 have c0 : (w.alloc (.cells #[.string (st n),.slice aoa a.length capa,.string (st t),.slice ao k.len cap] 52)).cell? ⟨P,0,none⟩ = some (.slice (some ⟨gn,0,none⟩) (L.length + 1) capn):=Blk.cell H1.out.blk 0
 have hbn : n = [] ∨ n.isEmpty = false:=by
  cases n with
  | nil=>exact .inl rfl
  | cons _ _=>exact .inr rfl
 have HBN:=Lib.hid hbn
 have hfl:=Mk.Fo.len_bulk f
 have htl:=Mk.Fo.lastT_bulk f
 unfold nodeV
 clear h hva hvk2 hvk3 hva2 hof hcn hal hns hfr hvnb hbn
 go_enter Tryz.func127,Tryz.ntmps127
 go_upto_region 1 with fail
 go_region
 all_goals
  generalize hw1 : (w.alloc (.cells #[.string (st n),.slice aoa a.length capa,.string (st t),.slice ao k.len cap] 52)) = w1 at PB H1 OF1 HAL e1 c0 ⊢
  clear hw1
  have p0 : w1.cell? ⟨w.heap.size,0,none⟩ = some (.string (st n)):=Blk.cell PB.out 0
  go_upto_region 3 with fail
  go_cut [38] (fun b wx=>b = .bool (f.merges n)∧wx = w1.drew)
  case first =>
   rcases HBN.out with hn | hn
   ·by_cases hf0 : f = .nil
    ·have HM : Hid (f.merges n = false):=by show _ = _;rw [hf0,Mk.Fo.merges_nil]
     have hl0 : ¬ 0 < f.len:=by rw [hf0];simp [Mk.Fo.len]
     have HN:=Lib.hid hn
     have he : n.isEmpty = true:=by rw [hn];rfl
     clear hn hf0
     go_wp2_with fail
     go_meet
     case rel=>exact ⟨by rw [HM.out],rfl⟩
    ·obtain ⟨g0,capz,hz,d1,d2,df⟩:=OF1.out.last hf0
     injection hz with z1 z2 z3
     subst z1
     subst z3
     have hl0 : 0 < f.len:=Fo_len_pos f hf0
     obtain ⟨j,hj⟩ : ∃ j,j = f.len - 1:=⟨_,rfl⟩
     rw [← hj] at d1
     have hj1 : (f.len : Int) - 1 = j:=by omega
     have hj2 : (j : Int) < f.len:=by omega
     have hj3 : (0 : Int)≤j:=by omega
     have he : n.isEmpty = true:=by rw [hn];rfl
     have hbl : f.lastN = [] ∨ f.lastN.isEmpty = false:=by
      cases f.lastN with
      | nil=>exact .inl rfl
      | cons _ _=>exact .inr rfl
     have HN:=Lib.hid hn
     have HF0:=Lib.hid hf0
     clear hj d2 df hn hf0
     rcases hbl with h1 | h1
     ·have HM : Hid (f.merges n = true):=(Mk.Fo.merges_iff _ _).2 ⟨HN.out,HF0.out,h1⟩
      have he1 : f.lastN.isEmpty = true:=by rw [h1];rfl
      clear h1
      go_wp2_with fail
      go_meet
      case rel=>exact ⟨by rw [HM.out],rfl⟩
     ·have HM : Hid (f.merges n = false):=by
       show _ = _
       rw [Bool.eq_false_iff]
       intro q
       rw [((Mk.Fo.merges_iff _ _).1 q).2.2] at h1;cases h1
      go_wp2_with fail
      go_meet
      case rel=>exact ⟨by rw [HM.out],rfl⟩
   ·have HM : Hid (f.merges n = false):=by
     show _ = _
     rw [Bool.eq_false_iff]
     intro q
     rw [((Mk.Fo.merges_iff _ _).1 q).1] at hn;cases hn
    go_wp2_with fail
    go_meet
    case rel=>exact ⟨by rw [HM.out],rfl⟩
  case rest =>
   obtain ⟨rfl,hw⟩:=hcut
   subst hw
   obtain ⟨mb,hmb⟩ : ∃ mb,f.merges n = mb:=⟨_,rfl⟩
   rw [hmb]
   have HMB:=Lib.hid hmb
   clear hmb
   cases mb with
   | true =>
    have hq:=(Mk.Fo.merges_iff _ _).1 HMB.out
    obtain ⟨g0,capz,hz,d1,d2,df⟩:=OF1.out.last hq.2.1
    injection hz with z1 z2 z3
    subst z1
    subst z3
    have hl0 : 0 < f.len:=Fo_len_pos f hq.2.1
    have OFM:=Lib.hid (OF1.out.merged a t k HMB.out (g:=g0) rfl)
    obtain ⟨j,hj⟩ : ∃ j,j = f.len - 1:=⟨_,rfl⟩
    rw [← hj] at d1 d2 OFM
    have hj1 : (f.len : Int) - 1 = j:=by omega
    have hj2 : (j : Int) < f.len:=by omega
    have hj3 : (0 : Int)≤j:=by omega
    have p2 : w1.cell? ⟨w.heap.size,2,none⟩ = some (.string (st t)):=Blk.cell PB.out 2
    have df2:=df (j * 4 + 2)
    have q1 : ¬ 9223372036854775807 < (st f.lastT).size + (st t).size:=by rw [st_size,st_size];omega
    have hBg:=(OF1.out.own.lt g0 rfl).1
    have hKg:=OF1.out.ne g0 rfl
    clear hj hq df
    go_upto_region 4 with fail
    go_region
    all_goals
     rw [show st f.lastT++st t = st (f.lastT++t) from app_st (st f.lastT) (st t)]
     go_wp2_with fail
     refine bodyPost_ret (results_none rfl _ _ _) rfl ?_
     have hov : ∀ b,(Value.slice (some ⟨g0,0,none⟩) f.len cap0).ownBlock = some b→b = g0:=fun b e=>by injection e with e;exact e.symm
     refine ⟨rfl,⟨_,H1.out.turn HNS.out (f':=Mk.Fo.snoc n a t k f) (xs:=xs.set (4 * j + 2) (.string (st (f.lastT++t)))) ?_ (by simp [World.setCell]) ?_⟩,?_⟩
     ·have q:=OFM.out.frame (w':=(w1.setCell ⟨g0,4 * j + 2,none⟩ (.string (st (f.lastT++t)))).drew.drew) (Nat.le_refl _) (fun _ _ _=>rfl)
      rw [Nat.mul_comm 4 j] at q
      rw [Nat.mul_comm 4 j]
      exact q
     ·intro b _ hb
      exact Below.heap_setCell w1 ⟨g0,j * 4 + 2,none⟩ _ b (by rintro rfl;exact hb rfl)
     ·exact ((((Ap.of_below HAL.out).setCell (p:=⟨g0,j * 4 + 2,none⟩) (show B≤g0∧¬ K g0 from ⟨hBg,hKg⟩) (.string (st (f.lastT++t)))).drew).drew)
   | false =>
    have p1 : w1.cell? ⟨w.heap.size,1,none⟩ = some (.slice aoa a.length capa):=Blk.cell PB.out 1
    have p2 : w1.cell? ⟨w.heap.size,2,none⟩ = some (.string (st t)):=Blk.cell PB.out 2
    have p3 : w1.cell? ⟨w.heap.size,3,none⟩ = some (.slice ao k.len cap):=Blk.cell PB.out 3
    go_upto_region 5 with fail
    obtain ⟨i0,hi,hz0,hz1,hz2⟩:=info_parts Tryz.infoNode
    have OW10:=Lib.hid (own_ap' OF1.out.own (((Ap.refl (fun _=>False) w1).drew).alloc (.cells #[.string ⟨#[]⟩,.slice none 0 0,.string ⟨#[]⟩,.slice none 0 0] 52)) (fun _ _ q=>q))
    have hBs : B≤w1.heap.size:=H1.out.blt
    have hlf : f.len≤1099511627776:=by omega
    have hlf1 : (f.len : Int) < f.len + 1:=by omega
    have hxl:=OF1.out.cells.length
    have hwl : w.heap.size < w1.heap.size:=Blk.lt PB.out
    have hgl1 : gn < w1.heap.size:=by omega
    have hne0 : (Value.slice ao0 f.len cap0).ownBlock ≠ some w.heap.size:=HNE0.out
    have HVL:=Lib.hid hvk4
    have HLF:=Lib.hid hlf
    clear hgP hPl hfl htl hbk hL hst hvk4 hgl hlf
    go_region_law (refine wp_append_fresh_step rfl (.tmp 54) (.tmp 57) 22 rfl B 52 i0 (.agg #[.string ⟨#[]⟩,.slice none 0 0,.string ⟨#[]⟩,.slice none 0 0]) 4 80 Tryz.underlying22 hi hz0 hz1 hz2 rfl (by decide) (.slice ao0 f.len cap0) f.len xs (by simp [Act.eval,Act.put]) OW10.out ⟨w1.heap.size,0,none⟩ 1 1 [.string ⟨#[]⟩,.slice none 0 0,.string ⟨#[]⟩,.slice none 0 0] (by simp [Act.eval,Act.put]) rfl (cells_new w1.drew _ _) (by intro u hu;simp at hu;rcases hu with rfl | rfl | rfl | rfl <;> rfl) (by decide) (by have:=HLF.out;unfold maxLen;omega) (by have:=HLF.out;omega) (by simp;omega) ?_;intro v' w10 hown' hgrow hfresh;have hb9:=((((Below.refl _ w1).alloc (Nat.le_refl _) (.cells #[.string ⟨#[]⟩,.slice none 0 0,.string ⟨#[]⟩,.slice none 0 0] 52)).drew).drew);obtain ⟨g',cap',hv',k0,k1,k2,k3,hfz,kn,fn,hgg,hwn⟩:=bld_pushed H1.out HNS.out e1 hxl hb9 hown' hgrow hfresh;subst hv';have z0:=hfz (f.len * 4);have z1:=hfz (f.len * 4 + 1);have z2:=hfz (f.len * 4 + 2);have z3:=hfz (f.len * 4 + 3);have HD:=Lib.hid (fun wF hF h1 h2 h3=>bld_done (wF:=wF) H1.out HNS.out OF1.out hb9 hown' hgrow hfresh hgg (HVA.out.frame fun b q=>⟨q,HAL.out.block b (H.out.kle b q).2⟩) (HVK.out.frame fun b q=>⟨q,HAL.out.block b (H.out.kle b q).2⟩) HVL.out (HVF.out.frame fun b q=>⟨q,HAL.out.block b (H.out.kle b q).2⟩) HMB.out (t:=t) (cap:=cap) hF h1 h2 h3);have hwb:=hwn w.heap.size hwl hne0;have m0:=(cell_of_block hwb 0).trans p0;have m1:=(cell_of_block hwb 1).trans p1;have m2:=(cell_of_block hwb 2).trans p2;have m3:=(cell_of_block hwb 3).trans p3;clear hfz hown' hgrow hfresh hb9 hwn hwb)
    all_goals
     clear k0 k1 k2 k3 kn fn m0 m1 m2 m3 p0 p1 p2 p3 z0 z1 z2 z3 OF1 e1 c0 hwl hgl1 hne0 hlf1 hBs OW10 hi hz0 hz1 hz2 hxl hgg HVL HLF HVA HVK HVF H H1 HMB HNS HNE0 PB HBN
     go_wp2_with fail
     go_end0
     exact ⟨rfl,and_fin (HD.out _ (by first | exact .inl (by with_reducible rfl) | exact .inr (by with_reducible rfl)) (by simp only [setCell_os]) (by simp only [setCell_tape]) (by simp only [setCell_output])) (fun q=>(Ap.of_below HAL.out).trans q)⟩
end Go.Proofs.YteidgdpaolieaaaGreatDoor
