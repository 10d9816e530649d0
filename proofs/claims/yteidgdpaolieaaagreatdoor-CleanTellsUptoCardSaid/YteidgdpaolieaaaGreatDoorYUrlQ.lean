/- Contracts of the reference's words on links: JoinOf, DotsOf, IsSafe. Condition: all texts together at most 1048576 bytes. -/
import Derived.Test.YteidgdpaolieaaaGreatDoorYMkRep6
import Derived.Test.YteidgdpaolieaaaGreatDoorYMkFlat1
set_option linter.unusedVariables false
set_option linter.unusedSimpArgs false
namespace Go.Proofs.YteidgdpaolieaaaGreatDoor
open Go.RowKit

/-- the text that JoinOf has after each part. -/
def jn1 (u : Mg.U) : List UInt8:=if u.hs then u.sch++[58] else []
def jn2 (u : Mg.U) : List UInt8:=jn1 u++if u.ha then [47,47]++u.au else []
def jn3 (u : Mg.U) : List UInt8:=jn2 u++u.pa
def jn4 (u : Mg.U) : List UInt8:=jn3 u++if u.hq then [63]++u.qu else []
def jn5 (u : Mg.U) : List UInt8:=jn4 u++if u.hf then [35]++u.fr else []
theorem jn5_join (u : Mg.U) : jn5 u = Mg.join u:=rfl
theorem jn_len (u : Mg.U) : (jn1 u).length≤u.sch.length + 1∧(jn2 u).length≤(jn1 u).length + u.au.length + 2∧(jn3 u).length = (jn2 u).length + u.pa.length∧(jn4 u).length≤(jn3 u).length + u.qu.length + 1∧(jn5 u).length≤(jn4 u).length + u.fr.length + 1:=by
 refine ⟨?_,?_,?_,?_,?_⟩
 ·unfold jn1;split <;> simp
 ·unfold jn2;rw [List.length_append];split <;> simp <;> omega
 ·unfold jn3;rw [List.length_append]
 ·unfold jn4;rw [List.length_append];split <;> simp <;> omega
 ·unfold jn5;rw [List.length_append];split <;> simp <;> omega

set_option maxHeartbeats 1000000 in
theorem ref_JoinOf (u : Mg.U) (w : World) (hl : u.sch.length + u.au.length + u.pa.length + u.qu.length + u.fr.length≤1048576) :
  Calls Tryz.prog 113 #[uVal u] w fun e w'=>e = .returned (.tuple #[.string (st (Mg.join u)),.bool (Mg.joinOk u)])∧Below w.heap.size w w':=by
 have hb:=Blk.new w 66 (uCells u)
 have hbl:=(Below.refl _ w).alloc (Nat.le_refl _) (.cells (uCells u) 66)
 obtain ⟨q1,q2,q3,q4,q5⟩:=jn_len u
 unfold uVal
 go_enter Tryz.func113,Tryz.ntmps113
 have m1 : ((st (jn1 u)).size : Int)≤67108864:=by simp only [st_size];omega
 have m2 : ((st (jn2 u)).size : Int)≤67108864:=by simp only [st_size];omega
 have m3 : ((st (jn3 u)).size : Int)≤67108864:=by simp only [st_size];omega
 have m4 : ((st (jn4 u)).size : Int)≤67108864:=by simp only [st_size];omega
 have m5 : ((st (jn5 u)).size : Int)≤67108864:=by simp only [st_size];omega
 have n1 : ((st u.sch).size : Int)≤67108864:=by simp only [st_size];omega
 have n2 : ((st u.au).size : Int)≤67108864:=by simp only [st_size];omega
 have n3 : ((st u.pa).size : Int)≤67108864:=by simp only [st_size];omega
 have n4 : ((st u.qu).size : Int)≤67108864:=by simp only [st_size];omega
 have n5 : ((st u.fr).size : Int)≤67108864:=by simp only [st_size];omega
 clear q1 q2 q3 q4 q5
 go_upto_region 2 with fail
 change Code.wp _ _ _ _ (w.alloc (.cells (uCells u) 66))
 generalize w.alloc (.cells (uCells u) 66) = w1 at hb hbl ⊢
 generalize Value.agg #[.string (st u.sch),.string (st u.au),.string (st u.pa),.string (st u.qu),.string (st u.fr),.bool u.hs,.bool u.ha,.bool u.hq,.bool u.hf] = v0
 have d0 : w1.cell? ⟨w.heap.size,0,none⟩ = some (.string (st u.sch)):=hb.cell 0
 have d1 : w1.cell? ⟨w.heap.size,1,none⟩ = some (.string (st u.au)):=hb.cell 1
 have d2 : w1.cell? ⟨w.heap.size,2,none⟩ = some (.string (st u.pa)):=hb.cell 2
 have d3 : w1.cell? ⟨w.heap.size,3,none⟩ = some (.string (st u.qu)):=hb.cell 3
 have d4 : w1.cell? ⟨w.heap.size,4,none⟩ = some (.string (st u.fr)):=hb.cell 4
 have d5 : w1.cell? ⟨w.heap.size,5,none⟩ = some (.bool u.hs):=hb.cell 5
 have d6 : w1.cell? ⟨w.heap.size,6,none⟩ = some (.bool u.ha):=hb.cell 6
 have d7 : w1.cell? ⟨w.heap.size,7,none⟩ = some (.bool u.hq):=hb.cell 7
 have d8 : w1.cell? ⟨w.heap.size,8,none⟩ = some (.bool u.hf):=hb.cell 8
 go_upto_if 6 with fail
 go_cut [4] (fun v wx=>v = .string (st (jn1 u))∧w1 = wx)
 case first =>
  have e : jn1 u = if u.hs then u.sch++[58] else []:=rfl
  have E:=Lib.hid e
  clear e
  cases hh : u.hs with
  | true =>
   have HH:=Lib.hid hh
   clear hh
   go_wp2_with fail
   go_meet
   case rel=>exact ⟨by rw [E.out,HH.out,if_pos rfl,app_st];rfl,rfl⟩
  | false =>
   have HH:=Lib.hid hh
   clear hh
   go_wp2_with fail
   go_meet
   case rel=>exact ⟨by rw [E.out,HH.out];rfl,rfl⟩
 case rest =>
  obtain ⟨rfl,rfl⟩:=hcut
  go_upto_if 11 with fail
  go_cut [4] (fun v wx=>v = .string (st (jn2 u))∧w1 = wx)
  case first =>
   have e : jn2 u = jn1 u++if u.ha then [47,47]++u.au else []:=rfl
   have E:=Lib.hid e
   clear e
   cases hh : u.ha with
   | true =>
    have HH:=Lib.hid hh
    clear hh
    go_wp2_with fail
    go_meet
    case rel=>exact ⟨by rw [E.out,HH.out,if_pos rfl,app_st,app_st];rfl,rfl⟩
   | false =>
    have HH:=Lib.hid hh
    clear hh
    go_wp2_with fail
    go_meet
    case rel=>exact ⟨by rw [E.out,HH.out];simp,rfl⟩
  case rest =>
   obtain ⟨rfl,rfl⟩:=hcut
   go_upto_if 22 with fail
   rw [show st (jn2 u)++st u.pa = st (jn3 u) from app_st _ _]
   go_cut [4] (fun v wx=>v = .string (st (jn4 u))∧w1 = wx)
   case first =>
    have e : jn4 u = jn3 u++if u.hq then [63]++u.qu else []:=rfl
    have E:=Lib.hid e
    clear e
    cases hh : u.hq with
    | true =>
     have HH:=Lib.hid hh
     clear hh
     go_wp2_with fail
     go_meet
     case rel=>exact ⟨by rw [E.out,HH.out,if_pos rfl,app_st,app_st];rfl,rfl⟩
    | false =>
     have HH:=Lib.hid hh
     clear hh
     go_wp2_with fail
     go_meet
     case rel=>exact ⟨by rw [E.out,HH.out];simp,rfl⟩
   case rest =>
    obtain ⟨rfl,rfl⟩:=hcut
    go_upto_if 29 with fail
    go_cut [4] (fun v wx=>v = .string (st (jn5 u))∧w1 = wx)
    case first =>
     have e : jn5 u = jn4 u++if u.hf then [35]++u.fr else []:=rfl
     have E:=Lib.hid e
     clear e
     cases hh : u.hf with
     | true =>
      have HH:=Lib.hid hh
      clear hh
      go_wp2_with fail
      go_meet
      case rel=>exact ⟨by rw [E.out,HH.out,if_pos rfl,app_st,app_st];rfl,rfl⟩
     | false =>
      have HH:=Lib.hid hh
      clear hh
      go_wp2_with fail
      go_meet
      case rel=>exact ⟨by rw [E.out,HH.out];simp,rfl⟩
    case rest =>
     obtain ⟨rfl,rfl⟩:=hcut
     rw [jn5_join] at m5 ⊢
     obtain ⟨acc,hacc⟩ : ∃ acc,acc = Mg.join u:=⟨_,rfl⟩
     rw [← hacc] at m5 ⊢
     have HJ:=Lib.hid hacc
     have hlen : (st acc).size≤67108864:=by omega
     clear hacc m1 m2 m3 m4 n1 n2 n3 n4 n5
     have hlt:=hb.lt
     go_wp2_with fail
     have heq:=fun W=>run_eql_url2 (Mg.split (st acc).data.toList) u W
     have hgd:=fun x y W=>run_guard_url (Mg.split (st acc).data.toList) u x y W
     go_region_held3 (fun w'=>w'.cell? ⟨w.heap.size,0,none⟩ = some (.string (st u.sch))∧w'.cell? ⟨w.heap.size,1,none⟩ = some (.string (st u.au))∧w'.cell? ⟨w.heap.size,2,none⟩ = some (.string (st u.pa))∧w'.cell? ⟨w.heap.size,3,none⟩ = some (.string (st u.qu))∧w'.cell? ⟨w.heap.size,4,none⟩ = some (.string (st u.fr))∧w'.cell? ⟨w.heap.size,5,none⟩ = some (.bool u.hs)∧w'.cell? ⟨w.heap.size,6,none⟩ = some (.bool u.ha)∧w'.cell? ⟨w.heap.size,7,none⟩ = some (.bool u.hq)∧w'.cell? ⟨w.heap.size,8,none⟩ = some (.bool u.hf)) (first | exact ⟨d0,d1,d2,d3,d4,d5,d6,d7,d8⟩ | exact ⟨cell_kept (wk:=w1.drew) d0 hb7,cell_kept (wk:=w1.drew) d1 hb7,cell_kept (wk:=w1.drew) d2 hb7,cell_kept (wk:=w1.drew) d3 hb7,cell_kept (wk:=w1.drew) d4 hb7,cell_kept (wk:=w1.drew) d5 hb7,cell_kept (wk:=w1.drew) d6 hb7,cell_kept (wk:=w1.drew) d7 hb7,cell_kept (wk:=w1.drew) d8 hb7⟩) (first | (go_at_call 111;refine (ref_SplitOf _ _ hlen).mono ?_;rintro e w7 ⟨rfl,hb7⟩))
     all_goals
      go_wp2_with fail
      go_ret2
      refine ⟨?_,hbl.drew.trans (hb7.mono (by have:=hbl.size;exact this))⟩
      rw [← HJ.out]
      show _ = Ending.returned (.tuple #[.string (st acc),.bool (Mg.split (Mg.join u) == u)])
      rw [← HJ.out]
      rfl
end Go.Proofs.YteidgdpaolieaaaGreatDoor

/- Contract of the reference's path without dots: DotsOf returns just what the plain Lean function says. Condition: a path of at most 67108864 bytes. -/
namespace Go.Proofs.YteidgdpaolieaaaGreatDoor
open Go.RowKit

theorem bk_hit (l : List UInt8) : Mg.bk (l++[47]) = l:=by simp [Mg.bk]
theorem bk_miss (l : List UInt8) (c : UInt8) (h : c ≠ 47) : Mg.bk (l++[c]) = Mg.bk l:=by simp [Mg.bk,h]
theorem bk_one (c : UInt8) : Mg.bk [c] = []:=by
 by_cases h : c = 47
 ·subst h;rfl
 ·simp [Mg.bk,h]
theorem ref_startsAt0 (l pl : List UInt8) (p : ByteArray) (hp : p.data.toList = pl) (w : World) (hl : (st l).size≤9223372036854775807) (hpl : p.size≤9223372036854775807) :
  Calls Tryz.prog 93 #[.string (st l),.int .i64 0,.string p] w fun e w'=>e = .returned (.bool (Mg.pre pl l))∧w = w':=by
 subst hp
 exact ref_startsAt (st l) p 0 w (Nat.zero_le _) hl hpl
theorem dflt_upTo (i : List UInt8) (hi : i ≠ []) : ∃ m,1≤m∧m≤i.length∧1 + upToL [47] (i.drop 1) = m∧i.take 1++i.tail.takeWhile (· != 47) = i.take m∧i.tail.dropWhile (· != 47) = i.drop m:=by
 obtain ⟨c,t,rfl⟩:=List.exists_cons_of_ne_nil hi
 have e : (fun c : UInt8=>![47].contains c) = (fun c : UInt8=>c != 47):=by funext c;rw [Bool.eq_iff_iff];simp
 have h:=List.takeWhile_append_dropWhile (p:=fun c : UInt8=>c != 47) (l:=t)
 have hl : (t.takeWhile (fun c : UInt8=>c != 47)).length≤t.length:=List.Sublist.length_le (List.takeWhile_sublist _)
 refine ⟨1 + (t.takeWhile (fun c : UInt8=>c != 47)).length,by omega,by simp;omega,?_,?_,?_⟩
 ·unfold upToL;rw [e];rfl
 ·rw [Nat.add_comm]
  simp only [List.take_succ_cons,List.tail_cons,List.take_zero,List.singleton_append]
  congr 1
  conv=>rhs;arg 2;rw [← h]
  rw [List.take_left'];rfl
 ·rw [Nat.add_comm]
  simp only [List.drop_succ_cons,List.tail_cons]
  conv=>rhs;arg 2;rw [← h]
  rw [List.drop_left'];rfl
def strlR : Value→Nat | .string b=>b.size | _=>0
theorem strlR_st (i : List UInt8) : strlR (.string (st i)) = i.length:=rfl
theorem strlR_suf (i : List UInt8) (n : Nat) : strlR (.string ((st i).extract n (st i).size)) = i.length - n:=by rw [extract_suf,strlR_st,bs_st,List.length_drop]
theorem dm_go {i o s i' : List UInt8} {p : List UInt8} {b : Bool} (hi : i ≠ []) (hr : Hid (Mg.dotsO i o = Mg.dots s)) (hd : Mg.dmove i = (b,i',p)) : Hid (Mg.dotsO i' ((if b then Mg.bk o else o)++p) = Mg.dots s):=by
 have h:=Mg.dotsO_step i o hi
 rw [hd] at h
 show _ = _
 rw [← h,hr.out]
theorem dm_less {i i' p : List UInt8} {b : Bool} (hi : i ≠ []) (hd : Mg.dmove i = (b,i',p)) : i'.length < i.length:=by
 have h:=Mg.dmove_less i hi
 rwa [hd] at h
theorem dm_len {i i' p : List UInt8} {b : Bool} (hi : i ≠ []) (hd : Mg.dmove i = (b,i',p)) : i'.length + p.length≤i.length:=by
 have h:=Mg.dmove_len i hi
 rwa [hd] at h

set_option maxHeartbeats 2000000 in
set_option maxRecDepth 100000 in
theorem ref_DotsOf (s : ByteArray) (w : World) (hs : s.size≤67108864) :
  Calls Tryz.prog 112 #[.string s] w fun e w'=>e = .returned (.string (st (Mg.dots s.data.toList)))∧∃ n,w' = w.drewN n:=by
 go_enter Tryz.func112,Tryz.ntmps112
 go_wp2_with fail
 go_loopw [0,3] (fun a b wr=>∃ i o : List UInt8,a = .string (st i)∧b = .string (st o)∧i.length + o.length≤s.size∧Hid (Mg.dotsO i o = Mg.dots s.data.toList)∧∃ n,wr = w.drewN n) (fun a _ _=>strlR a)
 case atStart=>exact ⟨s.data.toList,[],rfl,rfl,by simp,rfl,0,rfl⟩
 case round =>
  obtain ⟨i,o,rfl,rfl,hil,hr,n,rfl⟩:=hrel
  have hst : ∀ l,(st l).toList = l:=fun l=>Lib.toList_data _
  have hsz : (st i).size≤67108864:=by simp only [st_size];omega
  have hoz : (st o).size≤67108864:=by simp only [st_size];omega
  by_cases hi : i = []
  ·subst hi
   have e : Mg.dots s.data.toList = o:=by rw [← hr.out];rfl
   have E:=Lib.hid e
   clear e hr
   go_wp2_with fail
   go_ret
   exact ⟨by rw [E.out];rfl,n,rfl⟩
  have he : i.isEmpty = false:=by
   cases i with
   | nil=>exact absurd rfl hi
   | cons _ _=>rfl
  have HI:=Lib.hid hi
  clear hi
  go_wp2_with fail
  refine (ref_startsAt0 i [46,46,47] _ rfl _ (by omega) (by decide)).mono ?_
  rintro e w1 ⟨rfl,rfl⟩
  cases t1 : Mg.pre [46,46,47] i with
  | true =>
   have hz : (3 : Int)≤(st i).size:=by have h3 : ((([46,46,47] : List UInt8).length : Nat) : Int)≤(st i).size:=pre_len t1;simp at h3;omega
   have T:=dm_1 t1
   have HR:=dm_go HI.out hr T
   have hless:=dm_less HI.out T
   have hlen:=dm_len HI.out T
   simp only [List.append_nil,Bool.false_eq_true,if_false,if_true] at HR
   simp only [List.length_nil] at hlen
   clear T hr he t1
   go_wp2_with fail
   go_roundw
   case rel=>exact ⟨i.drop 3,o,by rw [extract_suf];rfl,rfl,by omega,HR,_,rfl⟩
   case measure=>rw [strlR_suf,strlR_st];rw [List.length_drop] at hless;exact hless
  | false =>
  go_wp2_with fail
  refine (ref_startsAt0 i [46,47] _ rfl _ (by omega) (by decide)).mono ?_
  rintro e w1 ⟨rfl,rfl⟩
  cases t2 : Mg.pre [46,47] i with
  | true =>
   have hz : (2 : Int)≤(st i).size:=by have h3 : ((([46,47] : List UInt8).length : Nat) : Int)≤(st i).size:=pre_len t2;simp at h3;omega
   have T:=dm_2 t1 t2
   have HR:=dm_go HI.out hr T
   have hless:=dm_less HI.out T
   have hlen:=dm_len HI.out T
   simp only [List.append_nil,Bool.false_eq_true,if_false,if_true] at HR
   simp only [List.length_nil] at hlen
   clear T hr he t1 t2
   go_wp2_with fail
   go_roundw
   case rel=>exact ⟨i.drop 2,o,by rw [extract_suf];rfl,rfl,by omega,HR,_,rfl⟩
   case measure=>rw [strlR_suf,strlR_st];rw [List.length_drop] at hless;exact hless
  | false =>
  go_wp2_with fail
  refine (ref_startsAt0 i [47,46,47] _ rfl _ (by omega) (by decide)).mono ?_
  rintro e w1 ⟨rfl,rfl⟩
  cases t3 : Mg.pre [47,46,47] i with
  | true =>
   have hz : (2 : Int)≤(st i).size:=by have h3 : ((([47,46,47] : List UInt8).length : Nat) : Int)≤(st i).size:=pre_len t3;simp at h3;omega
   have T:=dm_3 t1 t2 t3
   have HR:=dm_go HI.out hr T
   have hless:=dm_less HI.out T
   have hlen:=dm_len HI.out T
   simp only [List.append_nil,Bool.false_eq_true,if_false,if_true] at HR
   simp only [List.length_nil] at hlen
   clear T hr he t1 t2 t3
   go_wp2_with fail
   go_roundw
   case rel=>exact ⟨i.drop 2,o,by rw [extract_suf];rfl,rfl,by omega,HR,_,rfl⟩
   case measure=>rw [strlR_suf,strlR_st];rw [List.length_drop] at hless;exact hless
  | false =>
  by_cases h4 : i = [47,46]
  ·have t4 : (i == [47,46]) = true:=beq_iff_eq.2 h4
   have T:=dm_4 t1 t2 t3 t4
   have HR:=dm_go HI.out hr T
   have hless:=dm_less HI.out T
   have hlen:=dm_len HI.out T
   simp only [List.append_nil,Bool.false_eq_true,if_false,if_true] at HR
   simp only [List.length_nil] at hlen
   clear T hr he t1 t2 t3 t4
   subst h4
   go_wp2_with fail
   go_roundw
   case rel=>exact ⟨[47],o,rfl,rfl,by omega,HR,_,rfl⟩
   case measure=>first | exact hless | decide
  have t4 : (i == [47,46]) = false:=beq_eq_false_iff_ne.2 h4
  clear h4
  go_wp2_with fail
  refine (ref_startsAt0 i [47,46,46,47] _ rfl _ (by omega) (by decide)).mono ?_
  rintro e w1 ⟨rfl,rfl⟩
  cases t5 : Mg.pre [47,46,46,47] i with
  | true =>
   have hz : (3 : Int)≤(st i).size:=by have h3 : ((([47,46,46,47] : List UInt8).length : Nat) : Int)≤(st i).size:=pre_len t5;simp at h3;omega
   have hn6 : (i == [47,46,46]) = false:=by rw [beq_eq_false_iff_ne];rintro rfl;exact absurd t5 (by decide)
   have T:=dm_5 t1 t2 t3 t4 t5
   have HR:=dm_go HI.out hr T
   have hless:=dm_less HI.out T
   have hlen:=dm_len HI.out T
   simp only [List.append_nil,Bool.false_eq_true,if_false,if_true] at HR
   simp only [List.length_nil] at hlen
   clear T hr he t1 t2 t3 t4 t5
   by_cases ho : o = []
   ·subst ho
    go_wp2_with fail
    go_loop [4] (fun v=>v = .int .i64 (-1)) (fun _=>0)
    case atStart=>rfl
    case round =>
     obtain rfl:=hrel
     go_wp2_with fail
     go_roundw
     case rel=>exact ⟨i.drop 3,[],by rw [extract_suf];rfl,rfl,by simp;omega,HR,_,rfl⟩
     case measure=>rw [strlR_suf,strlR_st];rw [List.length_drop] at hless;exact hless
   have hol : 0 < o.length:=List.length_pos_iff.2 ho
   clear ho
   go_wp2_with fail
   go_loop [4] (fun v=>∃ k : Nat,k < o.length∧v = .int .i64 k∧Hid (Mg.bk o = Mg.bk (o.take (k + 1)))) (fun v=>(intOf v).toNat)
   case atStart=>exact ⟨o.length - 1,by omega,by rw [st_size];congr 1;omega,by show _ = _;rw [List.take_of_length_le (by omega)]⟩
   case round =>
    obtain ⟨k,hk,rfl,hb⟩:=hrel
    have hks : k < (st o).size:=hk
    have hsn : o.take (k + 1) = o.take k++[(st o)[k]]:=bs_take (st o) k hks
    by_cases h0 : 0 < k
    ·by_cases hc : (st o)[k] = 47
     ·have hx : Mg.bk o = o.take k:=by rw [hb.out,hsn,hc,bk_hit]
      have HX:=Lib.hid hx
      have hcb : (((st o)[k].toNat : Int) != 47) = false:=by rw [hc];rfl
      clear hx hb hsn hc
      rw [HX.out] at HR
      go_wp2_with fail
      go_roundw
      case rel=>exact ⟨i.drop 3,o.take k,by rw [extract_suf];rfl,by rw [extract_pre];rfl,by rw [List.length_take];omega,HR,_,rfl⟩
      case measure=>rw [strlR_suf,strlR_st];rw [List.length_drop] at hless;exact hless
     ·have hx : Mg.bk o = Mg.bk (o.take k):=by rw [hb.out,hsn,bk_miss _ _ hc]
      have HX:=Lib.hid hx
      have hcb : (((st o)[k].toNat : Int) != 47) = true:=by rw [bne_iff_ne];intro e;exact hc (UInt8.toNat_inj.1 (by show (st o)[k].toNat = 47;omega))
      clear hx hb hsn hc
      go_wp2_with fail
      go_round
      case rel=>exact ⟨k - 1,by omega,by congr 1;omega,by show _ = _;rw [Nat.sub_add_cancel h0,HX.out]⟩
      case measure=>simp [intOf];omega
    ·have hx : Mg.bk o = o.take k:=by
      have e0 : k = 0:=by omega
      subst e0
      rw [hb.out,hsn]
      exact bk_one _
     have HX:=Lib.hid hx
     have hd0 : decide (0 < k) = false:=by simpa using h0
     clear hx hb hsn
     rw [HX.out] at HR
     go_wp2_with fail
     go_roundw
     case rel=>exact ⟨i.drop 3,o.take k,by rw [extract_suf];rfl,by rw [extract_pre];rfl,by rw [List.length_take];omega,HR,_,rfl⟩
     case measure=>rw [strlR_suf,strlR_st];rw [List.length_drop] at hless;exact hless
  | false =>
  by_cases h6 : i = [47,46,46]
  ·have t6 : (i == [47,46,46]) = true:=beq_iff_eq.2 h6
   have T:=dm_6 t1 t2 t3 t4 t5 t6
   have HR:=dm_go HI.out hr T
   have hless:=dm_less HI.out T
   have hlen:=dm_len HI.out T
   simp only [List.append_nil,Bool.false_eq_true,if_false,if_true] at HR
   simp only [List.length_nil] at hlen
   clear T hr he t1 t2 t3 t4 t5 t6
   subst h6
   by_cases ho : o = []
   ·subst ho
    go_wp2_with fail
    go_loop [4] (fun v=>v = .int .i64 (-1)) (fun _=>0)
    case atStart=>rfl
    case round =>
     obtain rfl:=hrel
     go_wp2_with fail
     go_roundw
     case rel=>exact ⟨[47],[],rfl,rfl,by simp;omega,HR,_,rfl⟩
     case measure=>first | exact hless | decide
   have hol : 0 < o.length:=List.length_pos_iff.2 ho
   clear ho
   go_wp2_with fail
   go_loop [4] (fun v=>∃ k : Nat,k < o.length∧v = .int .i64 k∧Hid (Mg.bk o = Mg.bk (o.take (k + 1)))) (fun v=>(intOf v).toNat)
   case atStart=>exact ⟨o.length - 1,by omega,by rw [st_size];congr 1;omega,by show _ = _;rw [List.take_of_length_le (by omega)]⟩
   case round =>
    obtain ⟨k,hk,rfl,hb⟩:=hrel
    have hks : k < (st o).size:=hk
    have hsn : o.take (k + 1) = o.take k++[(st o)[k]]:=bs_take (st o) k hks
    by_cases h0 : 0 < k
    ·by_cases hc : (st o)[k] = 47
     ·have hx : Mg.bk o = o.take k:=by rw [hb.out,hsn,hc,bk_hit]
      have HX:=Lib.hid hx
      have hcb : (((st o)[k].toNat : Int) != 47) = false:=by rw [hc];rfl
      clear hx hb hsn hc
      rw [HX.out] at HR
      go_wp2_with fail
      go_roundw
      case rel=>exact ⟨[47],o.take k,rfl,by rw [extract_pre];rfl,by rw [List.length_take];omega,HR,_,rfl⟩
      case measure=>first | exact hless | decide
     ·have hx : Mg.bk o = Mg.bk (o.take k):=by rw [hb.out,hsn,bk_miss _ _ hc]
      have HX:=Lib.hid hx
      have hcb : (((st o)[k].toNat : Int) != 47) = true:=by rw [bne_iff_ne];intro e;exact hc (UInt8.toNat_inj.1 (by show (st o)[k].toNat = 47;omega))
      clear hx hb hsn hc
      go_wp2_with fail
      go_round
      case rel=>exact ⟨k - 1,by omega,by congr 1;omega,by show _ = _;rw [Nat.sub_add_cancel h0,HX.out]⟩
      case measure=>simp [intOf];omega
    ·have hx : Mg.bk o = o.take k:=by
      have e0 : k = 0:=by omega
      subst e0
      rw [hb.out,hsn]
      exact bk_one _
     have HX:=Lib.hid hx
     have hd0 : decide (0 < k) = false:=by simpa using h0
     clear hx hb hsn
     rw [HX.out] at HR
     go_wp2_with fail
     go_roundw
     case rel=>exact ⟨[47],o.take k,rfl,by rw [extract_pre];rfl,by rw [List.length_take];omega,HR,_,rfl⟩
     case measure=>first | exact hless | decide
  have t6 : (i == [47,46,46]) = false:=beq_eq_false_iff_ne.2 h6
  clear h6
  by_cases h7 : i = [46]
  ·have t7 : (i == [46]) = true:=beq_iff_eq.2 h7
   have T:=dm_7 t1 t2 t3 t4 t5 t6 (.inl t7)
   have HR:=dm_go HI.out hr T
   have hless:=dm_less HI.out T
   have hlen:=dm_len HI.out T
   simp only [List.append_nil,Bool.false_eq_true,if_false,if_true] at HR
   simp only [List.length_nil] at hlen
   clear T hr he t1 t2 t3 t4 t5 t6 t7
   subst h7
   go_wp2_with fail
   go_roundw
   case rel=>exact ⟨[],o,rfl,rfl,by omega,HR,_,rfl⟩
   case measure=>first | exact hless | decide
  have t7 : (i == [46]) = false:=beq_eq_false_iff_ne.2 h7
  clear h7
  by_cases h8 : i = [46,46]
  ·have t8 : (i == [46,46]) = true:=beq_iff_eq.2 h8
   have T:=dm_7 t1 t2 t3 t4 t5 t6 (.inr t8)
   have HR:=dm_go HI.out hr T
   have hless:=dm_less HI.out T
   have hlen:=dm_len HI.out T
   simp only [List.append_nil,Bool.false_eq_true,if_false,if_true] at HR
   simp only [List.length_nil] at hlen
   clear T hr he t1 t2 t3 t4 t5 t6 t8 t7
   subst h8
   go_wp2_with fail
   go_roundw
   case rel=>exact ⟨[],o,rfl,rfl,by omega,HR,_,rfl⟩
   case measure=>first | exact hless | decide
  have t8 : (i == [46,46]) = false:=beq_eq_false_iff_ne.2 h8
  clear h8
  obtain ⟨m,hm1,hm2,hm3,hm4,hm5⟩:=dflt_upTo i HI.out
  have T:=dm_8 t1 t2 t3 t4 t5 t6 t7 t8
  have HR:=dm_go HI.out hr T
  have hless:=dm_less HI.out T
  have hlen:=dm_len HI.out T
  simp only [Bool.false_eq_true,if_false] at HR
  rw [hm5] at hless hlen HR
  rw [hm4] at hlen HR
  have hup : ∀ W : World,Calls Tryz.prog 137 #[.string (st i),.int .i64 1,.string ⟨#[47]⟩] W fun e w'=>e = .returned (.int .i64 (m : Int))∧∃ n,w' = W.drewN n:=by
   intro W
   have h:=ref_upTo (st i) ⟨#[47]⟩ 1 W (by simp only [st_size];omega) (by omega) (by decide)
   rw [show 1 + upToL (⟨#[47]⟩ : ByteArray).data.toList (List.drop 1 (st i).data.toList) = m from hm3] at h
   exact h
  have HUP:=Lib.hid hup
  clear hup
  have hm6 : (m : Int)≤(st i).size:=by simp only [st_size];omega
  clear T hr he hm3 hm4 hm5
  go_wp2_with fail
  refine (HUP.out _).mono ?_
  rintro e w2 ⟨rfl,n2,rfl⟩
  go_wp2_with fail
  go_roundw
  case rel=>exact ⟨i.drop m,o++i.take m,by rw [extract_suf];rfl,by rw [extract_pre,app_st];rfl,by rw [List.length_append,List.length_drop,List.length_take];omega,HR,_,rfl⟩
  case measure=>rw [strlR_suf,strlR_st];rw [List.length_drop] at hless;exact hless
end Go.Proofs.YteidgdpaolieaaaGreatDoor
