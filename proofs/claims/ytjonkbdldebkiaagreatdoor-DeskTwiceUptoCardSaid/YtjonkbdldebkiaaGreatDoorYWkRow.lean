/- Laws on rows of cells of whatever size: copy, clear, a row that is written anew. No program in sight but its types. -/
import Derived.Test.YtjonkbdldebkiaaGreatDoorYWeA
import Derived.Test.YtjonkbdldebkiaaGreatDoorYUrlD
import Derived.Laws.CopyRow
import Derived.Deep.RegionLaw
set_option linter.unusedVariables false
set_option linter.unusedSimpArgs false
namespace Go.Proofs.YtjonkbdldebkiaaGreatDoor
open Go.Proofs.Tryz Go.RowKit
section
variable {P : Program}
theorem z0t (w:World) (dT sT ty elem:TypeId) (size:Nat) (g o dLen dCap:Nat) (a:Addr) (sLen sCap:Nat) (cur:Array Value) (t:TypeId) (cs:List Value)
  (hu:P.underlying dT=some (.slice elem)) (hs:(P.info? elem).map (·.size)=some size)
  (hg:w.heap[g]? = some (.cells cur t (0,0))) (hn:cs.length=Nat.min sLen dLen * size)
  (hsrc:∀ j v,cs[j]? = some v→w.cell? (a.add j)=some v) (hfit:o + cs.length≤cur.size) (h1:∀ v ∈ cs,v.oneCell'=true) :
  (Builtin.copy_ #[dT,sT] ty #[.slice (some ⟨g,o,none⟩) dLen dCap,.slice (some a) sLen sCap]).run P w =
   .ok (goInt (Nat.min sLen dLen)) (w.setRow g (cur.toList.take o++cs++cur.toList.drop (o + cs.length)).toArray):=by
 have hl:=run_loadCells_list (P:=P) w a cs hsrc;have hst:=run_storeCells_at P g o t cs 0 cur w hg (by simpa using hfit) h1
 cases hq:P.info? elem with
 | none=>simp[hq] at hs
 | some i =>
  have hi:i.size=size:=by simpa [hq] using hs
  simp[Builtin.copy_,run_underlying hu,Builtin.lenOf,Builtin.firstCells,sizeOf,typeInfo,hq,hi,← hn,hl,hst]
theorem z4p (w:World) (t e ty:TypeId) (z:Value) (size:Nat) (ht:P.underlying t=some (.slice e)) (hv:∀ w,(zeroValue e).run P w=.ok z w) (hz:z.cells.size=size) (h1:∀ u ∈ z.cells,u.oneCell'=true) (hs:0 < size)
  (g o n c:Nat) (hn:0 < n) (cur:Array Value) (tt:TypeId) (hg:w.heap[g]? = some (.cells cur tt (0,0))) (hfit:o + n * size≤cur.size) :
  (Builtin.clear_ #[t] ty #[.slice (some ⟨g,o,none⟩) n c]).run P w=.ok (.tuple #[]) (w.setRow g (cur.toList.take o++(Builtin.zeroCells z.cells n).toList++cur.toList.drop (o + n * size)).toArray):=by
 have hl:(Builtin.zeroCells z.cells n).toList.length=n * size:=by rw[Array.length_toList,size_zeroCells,hz]
 have h1z:∀ v ∈ (Builtin.zeroCells z.cells n).toList,v.oneCell'=true:=by
  intro v hv';rw[Array.mem_toList_iff] at hv';unfold Builtin.zeroCells at hv';rw[Array.mem_map] at hv';obtain⟨j,_,rfl⟩:=hv';exact h1 _ (by
   have hp:0 < z.cells.size:=by rw[hz];exact hs
   have hm:=Nat.mod_lt j hp;rw[getElem!_pos z.cells (j % z.cells.size) hm];exact Array.getElem_mem hm)
 have hst:=run_storeCells_at P g o tt (Builtin.zeroCells z.cells n).toList 0 cur w hg (by rw[hl];exact hfit) h1z;rw[hl] at hst;simp only [Nat.add_zero] at hst;obtain⟨m,rfl⟩:∃ m,n=m + 1:=⟨n - 1,by omega⟩;simp[Builtin.clear_,run_underlying ht,hv,hst]
theorem z8o {w:World} {B:Nat} {e:TypeId} {size n:Nat} {v:Value} {xs:List Value} (h:w.ownsRow B e size v n xs) (hn:0 < n):∃ g cap cur,v=.slice (some ⟨g,0,none⟩) n cap∧w.heap[g]? = some (.cells cur e (0,0))∧cur.size=cap * size∧n≤cap∧cap≤maxLen∧B≤g∧cur.toList.take (n * size)=xs∧xs.length=n * size:=by
 rcases h.2 with ⟨_,h0⟩ | ⟨g,cap,cur,hv,hb,hg,hn,hc,hs,ht⟩
 ·omega
 ·exact⟨g,cap,cur,hv,hg,hs,hn,hc,hb,ht,h.1⟩
theorem z5r {w:World} {B:Nat} {e:TypeId} {size g cap m:Nat} {ys:List Value} {cur:Array Value} (hB:B≤g) (hg:w.heap[g]? = some (.cells cur e (0,0))) (hc:cur.size=cap * size) (hm:m≤cap) (hx:cap≤maxLen) (ht:cur.toList.take (m * size)=ys):w.ownsRow B e size (.slice (some ⟨g,0,none⟩) m cap) m ys:=by
 refine⟨?_,.inr ⟨g,cap,cur,rfl,hB,hg,hm,hx,hc,ht⟩⟩;rw[← ht,List.length_take,Array.length_toList,hc];exact Nat.min_eq_left (Nat.mul_le_mul_right _ hm)
theorem Ap.setRow {S:Nat→Prop} {w w':World} (h:Ap S w w') {g:Nat} (hg:S g) (vs:Array Value):Ap S w (w'.setRow g vs):=by
 refine⟨h.os,h.tape,h.output,by have:=h.size;simpa [World.setRow] using this,fun k hk hs=>?_⟩;rw[setRow_other w' g k vs (fun e=>hs (by rw[e];exact hg))];exact h.block k hk hs
theorem z6q {ops:Array Oper} {o:Oper} {a:Act} {w:World} {K:Act→World→Prop} {Q:Exit→Act→World→Prop} {E:Prop}
  (hg:o.guard=none) (s x:Operand) (t:TypeId) (hop:o.op=Op.call { callee:=Callee.builtin Builtin.append,args:=#[s,x],argTypes:=#[t,t] })
  (e:TypeId) (i:TypeInfo) (size:Nat) (ht:P.underlying t=some (.slice e)) (hi:P.info? e=some i) (hsz:i.size=size)
  (g sLen sCap:Nat) (hs:a.eval s=.slice (some ⟨g,0,none⟩) sLen sCap) (cur:Array Value) (hgc:w.heap[g]? = some (.cells cur e (0,0)))
  (ad:Addr) (m c:Nat) (news:List Value) (hx:a.eval x=.slice (some ad) m c) (hl:news.length=m * size) (hnews:∀ j u,news[j]? = some u→w.cell? (ad.add j)=some u) (h1:∀ u ∈ news,u.oneCell'=true)
  (hroom:sLen + m≤sCap) (hfit:sLen * size + news.length≤cur.size)
  (hK:K (a.put o.dst (.slice (some ⟨g,0,none⟩) (sLen + m) sCap)) (w.setRow g (cur.toList.take (sLen * size)++news++cur.toList.drop (sLen * size + news.length)).toArray)) :
  if Region.wanted o (yielded ops a.tmps)=true then Oper.wp P o a w K Q else E:=by
 have hw:Region.wanted o (yielded ops a.tmps)=true:=by simp[Region.wanted,hg]
 rw[if_pos hw];subst hsz;have hrun:=run_append_room (P:=P) w t o.type e i ht hi g sLen sCap cur hgc ad m c news hl hnews h1 hroom hfit;generalize (cur.toList.take (sLen * i.size)++news++cur.toList.drop (sLen * i.size + news.length)).toArray=c1 at hrun hK;unfold Oper.wp;simp[execOp,hop,resolve,invoke,builtin,hs,hx,hrun,Result.andThen];exact hK
theorem wp_copy_run (w:World) {o:Oper} {a:Act} {K:Act→World→Prop} {Q:Exit→Act→World→Prop} (d s:Operand) (t t':TypeId)
  (ho:o.op=.call { callee:=.builtin .copy,args:=#[d,s],argTypes:=#[t,t'] }) (v u:Value) (hd:a.eval d=v) (hs:a.eval s=u) {v':Value} {w':World}
  (hr:(Builtin.copy_ #[t,t'] o.type #[v,u]).run P w=.ok v' w') (h:K (a.put o.dst v') w'):o.wp P a w K Q:=by
 unfold Oper.wp execOp;simp only [ho,resolve,invoke,builtin,Sem.run_bind,Sem.run_pure,Result.andThen_ok,List.map_toArray,List.map_cons,List.map_nil,hd,hs,hr];exact h
theorem wpList_copy_run (w:World) {ops:Array Oper} {rest:List Oper} {o:Oper} {a:Act} {Q:Exit→Act→World→Prop} (hgd:o.guard=none) (d s:Operand) (t t':TypeId)
  (ho:o.op=.call { callee:=.builtin .copy,args:=#[d,s],argTypes:=#[t,t'] }) (v u:Value) (hd:a.eval d=v) (hs:a.eval s=u) {v':Value} {w':World}
  (hr:(Builtin.copy_ #[t,t'] o.type #[v,u]).run P w=.ok v' w') (h:wpList P ops Q rest (a.put o.dst v') w'):wpList P ops Q (o :: rest) a w :=
 wpList_plain hgd fun _ hK=>wp_copy_run w d s t t' ho v u hd hs hr (hK _ _ h)
theorem z3f {ops:Array Oper} {o:Oper} {a:Act} {w:World} {K:Act→World→Prop} {Q:Exit→Act→World→Prop} {E:Prop}
  (hg:o.guard=none) (d x:Operand) (dT sT:TypeId) (hop:o.op=Op.call { callee:=Callee.builtin Builtin.copy,args:=#[d,x],argTypes:=#[dT,sT] })
  (v u:Value) (hd:a.eval d=v) (hx:a.eval x=u) {v':Value} {w':World} (hr:(Builtin.copy_ #[dT,sT] o.type #[v,u]).run P w=.ok v' w') (hK:K (a.put o.dst v') w') :
  if Region.wanted o (yielded ops a.tmps)=true then Oper.wp P o a w K Q else E:=by
 have hw:Region.wanted o (yielded ops a.tmps)=true:=by simp[Region.wanted,hg]
 rw[if_pos hw];unfold Oper.wp;simp[execOp,hop,resolve,invoke,builtin,hd,hx,hr,Result.andThen];exact hK
end
theorem z6k (l:List Fd.En):∀ u ∈ y9 l,u.oneCell'=true:=by
 intro u hu;unfold y9 at hu;rw[List.mem_flatMap] at hu;obtain⟨x,_,hx⟩:=hu;simp[enV] at hx
 rcases hx with rfl | rfl | rfl | rfl | rfl <;> rfl
theorem z1h (a b:List Fd.En):y9 (a++b)=y9 a++y9 b:=by simp[y9]
theorem z3d (l:List Fd.En) (k:Nat):(y9 l).take (k * 5)=y9 (l.take k):=by
 rcases Nat.lt_or_ge k l.length with q | q
 ·conv=>lhs;rw[← List.take_append_drop k l,z1h]
  rw[List.take_append_of_le_length (by rw[Y9,List.length_take];omega),List.take_of_length_le (by rw[Y9,List.length_take];omega)]
 ·rw[List.take_of_length_le q,List.take_of_length_le (by rw[Y9];omega)]
theorem z8h (l:List Fd.En) (k:Nat):(y9 l).drop (k * 5)=y9 (l.drop k):=by
 rcases Nat.lt_or_ge k l.length with q | q
 ·conv=>lhs;rw[← List.take_append_drop k l,z1h]
  rw[List.drop_append_of_le_length (by rw[Y9,List.length_take];omega),List.drop_of_length_le (by rw[Y9,List.length_take];omega),List.nil_append]
 ·rw[List.drop_of_length_le q,List.drop_of_length_le (by rw[Y9];omega)];rfl
theorem z1m (g o i:Nat):(⟨g,o,none⟩:Addr).add i=⟨g,o + i,none⟩:=by unfold Addr.add;split <;> simp_all
theorem Tryz.infoEntry:(prog.info? 44).map (fun i=>(i.zero,i.size,i.bytes))=some (some (.agg #[.string ⟨#[]⟩,.string ⟨#[]⟩,.string ⟨#[]⟩,.int .i64 0,.string ⟨#[]⟩]),5,72):=by kernel_rfl
theorem q3s (w:World):(zeroValue 44).run prog w=.ok (.agg #[.string ⟨#[]⟩,.string ⟨#[]⟩,.string ⟨#[]⟩,.int .i64 0,.string ⟨#[]⟩]) w:=by kernel_rfl
theorem z0u (l:List (List UInt8)):(Q8 l).length=l.length * 1:=by simp[Q8]
theorem q1k (l:List (List UInt8)):∀ u ∈ Q8 l,u.oneCell'=true:=by
 intro u hu;unfold Q8 at hu;rw[List.mem_map] at hu;obtain⟨x,_,rfl⟩:=hu;rfl
theorem z6r (a b:List (List UInt8)):Q8 (a++b)=Q8 a++Q8 b:=by simp[Q8]
theorem q3l (l:List (List UInt8)) (k:Nat):(Q8 l).take (k * 1)=Q8 (l.take k):=by rw[Nat.mul_one];unfold Q8;rw[List.map_take]
theorem q3k (l:List (List UInt8)) (k:Nat):(Q8 l).drop (k * 1)=Q8 (l.drop k):=by rw[Nat.mul_one];unfold Q8;rw[List.map_drop]
theorem Tryz.infoStrR:(prog.info? 9).map (fun i=>(i.zero,i.size,i.bytes))=some (some (.string ⟨#[]⟩),1,16):=by kernel_rfl
theorem zero_str (w:World):(zeroValue 9).run prog w=.ok (.string ⟨#[]⟩) w:=by kernel_rfl
end Go.Proofs.YtjonkbdldebkiaaGreatDoor
