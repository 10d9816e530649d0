/- Contracts of slices.Contains over bytes and of the date reader's method sign. Condition: at most 1000 signs are asked for. -/
import Derived.Test.YtjonkbdldebkiaaGreatDoorVWdB
import Derived.Test.YtjonkbdldebkiaaGreatDoorVMkTok3
import Derived.Test.YtjonkbdldebkiaaGreatDoorVMkFn
set_option linter.unusedVariables false
set_option linter.unusedSimpArgs false
set_option maxHeartbeats 4000000
set_option maxRecDepth 100000
namespace Go.Proofs.YtjonkbdldebkiaaGreatDoor
open Go.Proofs.Tryz Go.RowKit
theorem j7g (l:List UInt8) (c:UInt8) (X cap:Nat) (w:World) (hl:l.length≤1000) (hcl:∀ j (h:j < l.length),w.cell? ⟨X,j,none⟩=some (.int .u8 l[j].toNat)) :
  Calls prog 220 #[.slice (some ⟨X,0,none⟩) l.length cap,.int .u8 c.toNat] w fun e w'=>∃ i:Int,e=.returned (.int .i64 i)∧decide (0≤i)=l.contains c∧w'=w:=by
 have HCL:=Ld hcl;clear hcl;go_enter func220,ntmps220;go_wp2_with fail
 go_loopw [8] (fun i wr=>∃ k:Nat,k≤l.length∧i=.int .i64 k∧Hid (c ∉ l.take k)∧Hid (w=wr)) (fun i _=>l.length - (intOf i).toNat)
 case atStart=>exact⟨0,Nat.zero_le _,rfl,by show _ ∉ _;simp,by first | exact rfl | exact trivial⟩
 case round =>
  obtain⟨k,hk,rfl,HN,HW⟩:=hrel;have hw:=HW.out;clear HW;subst hw
  by_cases hlt:k < l.length
  ·have c0:=HCL.out k hlt
   have HT:Hid (l.take (k + 1)=l.take k++[l[k]]):=List.take_succ_eq_append_getElem hlt;have HM:Hid (l[k] ∈ l):=List.getElem_mem hlt;obtain⟨x,hx⟩:∃ x,l[k]=x:=⟨_,rfl⟩;rw[hx] at c0 HT HM;clear hx
   by_cases h:c=x
   ·have HC:Hid (l.contains c=true):=by show _=_;rw[List.contains_iff_mem];rw[h];exact HM.out
    have e1:((c.toNat:Int) == (x.toNat:Int))=true:=by rw[h];simp
    clear h;go_wp2_with fail;go_ret;exact⟨_,rfl,by rw[HC.out];exact decide_eq_true (by omega),rfl⟩
   ·have HN2:Hid (c ∉ l.take (k + 1)):=by
     show _ ∉ _;rw[HT.out];intro q
     rcases List.mem_append.1 q with q | q
     ·exact HN.out q
     ·exact h (by simpa using q)
    have e1:((c.toNat:Int) == (x.toNat:Int))=false:=by
     rw[beq_eq_false_iff_ne];intro q;exact h (UInt8.toNat_inj.1 (by omega))
    clear h;go_wp2_with fail;go_roundw
    case rel=>exact⟨k + 1,by omega,by go_num,HN2,by first | exact rfl | exact trivial⟩
    case measure=>simp[intOf];omega
  ·have hke:k=l.length:=by omega
   have HC:Hid (l.contains c=false):=by
    show _=_;have:=HN.out;rw[hke,List.take_length] at this;rw[Bool.eq_false_iff];intro q;exact this (List.contains_iff_mem.1 q)
   clear hke;go_wp2_with fail;go_ret;exact⟨-1,rfl,by rw[HC.out];rfl,rfl⟩
theorem q71 (l:List UInt8) (c:UInt8) (X cap:Nat) (w:World) (hl:l.length≤1000) (hcl:∀ j (h:j < l.length),w.cell? ⟨X,j,none⟩=some (.int .u8 l[j].toNat)) :
  Calls prog 169 #[.slice (some ⟨X,0,none⟩) l.length cap,.int .u8 c.toNat] w fun e w'=>e=.returned (.bool (l.contains c))∧w'=w:=by
 have HI:=Ld (j7g l c X cap w hl hcl);clear hcl;go_enter func169,ntmps169;go_wp2_with fail;refine HI.out.mono ?_;rintro e w1 ⟨i,rfl,hi,hw⟩;subst w1;have HC:=Ld hi;clear hi HI;go_wp2_with fail;go_ret;exact⟨Z8 HC.out,rfl⟩
def DrS (w:World) (R:Nat) (r:Fd.Dr):Prop:=Blk w R 160 #[.string (st r.s),.bool r.short]
theorem z1t (of:List UInt8) (r:Fd.Dr) (R:Nat) (w:World) (h:DrS w R r) (hof:of.length≤1000) :
  Calls prog 104 #[.pointer (some ⟨R,0,none⟩),.string (st of)] w fun e w'=>e=.returned (.int .u8 (Fd.V4 of r).1.toNat)∧DrS w' R (Fd.V4 of r).2∧Ap (fun b=>b=R) w w':=by
 have hst:∀ l:List UInt8,(st l).toList=l:=fun l=>Lib.toList_data _
 obtain⟨s,sh⟩:=r;have RB:=Ld h;have hRl:=Blk.lt h;have c0:w.cell? ⟨R,0,none⟩=some (.string (st s)):=Blk.cell h 0;have c1:w.cell? ⟨R,1,none⟩=some (.bool sh):=Blk.cell h 1;have f0:=Blk.frozen h 0;have f1:=Blk.frozen h 1;clear h
 cases s with
 | nil =>
  go_enter func104,ntmps104;go_wp2_with fail;go_ret;exact⟨rfl,Blk.set_ (Blk.set_ RB.out 0 _) 1 _,((Ap.refl (fun b=>b=R) w).setCell (p:=⟨R,0,none⟩) rfl _).setCell (p:=⟨R,1,none⟩) rfl _⟩
 | cons c t =>
  have hcv:=Lib.run_convert_string_bytes (P:=prog) w 9 94 5 (st of) (u:=.string) underlying9 underlying94 underlying5;have hcl:=fun j hj=>Lib.bytesWorld_cell w 5 (st of) j hj
  have hbw:Below w.heap.size w (Lib.bytesWorld w 5 (st of)):=⟨rfl,rfl,rfl,by rw[Lib.bytesWorld_size];omega,fun k hk=>Lib.bytesWorld_at_old w _ (st of) k hk⟩;generalize Lib.bytesWorld w 5 (st of)=wv at hcv hcl hbw;rw[Z4] at hcv;have HCL:Hid (∀ j (h:j < of.length),wv.cell? ⟨w.heap.size,j,none⟩=some (.int .u8 of[j].toNat)):=by
   intro j hj;rw[hcl j (by rw[Z4];exact hj)];simp[st,List.getD_eq_getElem?_getD,List.getElem?_eq_getElem hj]
  have d0:wv.cell? ⟨R,0,none⟩=some (.string (st (c :: t))):=(hbw.cell (p:=⟨R,0,none⟩) hRl).trans c0;have d1:wv.cell? ⟨R,1,none⟩=some (.bool sh):=(hbw.cell (p:=⟨R,1,none⟩) hRl).trans c1;have HBW:=Ld hbw;clear hcl hbw;have hS0:0 < (st (c :: t)).size:=by rw[Z4];simp
  have hget:∀ q:0 < (st (c :: t)).size,(st (c :: t))[0]'q=c:=fun _=>rfl
  have hext:(st (c :: t)).extract 1 (st (c :: t)).size=st t:=by rw[Y1,Z4];simp[st]
  have HCN:=Ld (q71 of c w.heap.size (grownCap w of.length 0 5) wv hof HCL.out);have e0:wv.frozen? ⟨R,0,none⟩=false:=(HBW.out.frozen (p:=⟨R,0,none⟩) hRl).trans f0;have e1:wv.frozen? ⟨R,1,none⟩=false:=(HBW.out.frozen (p:=⟨R,1,none⟩) hRl).trans f1;have RB2:=Ld (Blk.below RB.out HBW.out hRl);have AP2:Hid (Ap (fun b=>b=R) w wv):=Ap.of_below HBW.out;clear HCL;have HSD:Hid (Fd.V4 of ⟨c :: t,sh⟩=if of.contains c then (c,⟨t,sh⟩) else (0,⟨[],true⟩)):=rfl;go_enter func104,ntmps104;go_wp2_with fail;refine HCN.out.mono ?_;rintro e w1 ⟨rfl,hw1⟩;subst w1;clear HCN hcv;obtain⟨b,hb⟩:∃ b,of.contains c=b:=⟨_,rfl⟩;have HBB:=Ld hb;rw[hb];clear hb
  cases b with
  | true =>
   have HE:Hid (Fd.V4 of ⟨c :: t,sh⟩=(c,⟨t,sh⟩)):=by show _=_;rw[HSD.out,HBB.out,if_pos rfl]
   go_wp2_with fail;go_ret;exact⟨by rw[HE.out];rfl,by rw[HE.out];exact Blk.set_ RB2.out 0 _,AP2.out.setCell (p:=⟨R,0,none⟩) rfl _⟩
  | false =>
   have HE:Hid (Fd.V4 of ⟨c :: t,sh⟩=(0,⟨[],true⟩)):=by show _=_;rw[HSD.out,HBB.out,if_neg (by decide)]
   go_wp2_with fail;go_ret;exact⟨by rw[HE.out];rfl,by rw[HE.out];exact Blk.set_ (Blk.set_ RB2.out 0 _) 1 _,(AP2.out.setCell (p:=⟨R,0,none⟩) rfl _).setCell (p:=⟨R,1,none⟩) rfl _⟩
end Go.Proofs.YtjonkbdldebkiaaGreatDoor
namespace Fd
theorem ten_mem {c:UInt8} (h:tenD.contains c=true):48≤c.toNat∧c.toNat≤57:=by
 rw[List.contains_iff_mem] at h;simp only [tenD,List.mem_cons,List.not_mem_nil,or_false] at h
 rcases h with rfl | rfl | rfl | rfl | rfl | rfl | rfl | rfl | rfl | rfl <;> decide
theorem j4z (r:Dr):0≤max 0 ((((V4 tenD r).1.toNat:Nat):Int) - 48)∧max 0 ((((V4 tenD r).1.toNat:Nat):Int) - 48)≤9:=by
 obtain⟨s,sh⟩:=r
 cases s with
 | nil=>exact⟨by show (0:Int)≤max 0 (0 - 48);decide,by show max (0:Int) (0 - 48)≤9;decide⟩
 | cons c t =>
  show 0≤max 0 ((((if tenD.contains c then (c,(⟨t,sh⟩:Dr)) else (0,⟨[],true⟩)).1.toNat:Nat):Int) - 48)∧max 0 ((((if tenD.contains c then (c,(⟨t,sh⟩:Dr)) else (0,⟨[],true⟩)).1.toNat:Nat):Int) - 48)≤9
  split
  ·rename_i h
   have:=ten_mem h;show 0≤max 0 (((c.toNat:Nat):Int) - 48)∧max 0 (((c.toNat:Nat):Int) - 48)≤9;constructor <;> omega
  ·exact⟨by decide,by decide⟩
end Fd
namespace Go.Proofs.YtjonkbdldebkiaaGreatDoor
open Go.Proofs.Tryz Go.RowKit
theorem z1g (many:Nat) (most:Int) (r:Fd.Dr) (R:Nat) (w:World) (h:DrS w R r) (hm:many≤4) :
  Calls prog 103 #[.pointer (some ⟨R,0,none⟩),.int .i64 many,.int .i64 most] w fun e w'=>e=.returned (.int .i64 (Fd.Y0 many most r).1)∧DrS w' R (Fd.Y0 many most r).2∧Ap (fun b=>b=R) w w'∧0≤(Fd.Y0 many most r).1∧(Fd.Y0 many most r).1≤99999:=by
 have HR:=Ld h;have HDD:Hid (Fd.Y0 many most r=((Fd.digD many 0 r).1,⟨(Fd.digD many 0 r).2.s,(Fd.digD many 0 r).2.short || decide (most < (Fd.digD many 0 r).1)⟩)):=rfl;generalize Fd.Y0 many most r=out at HDD ⊢;clear h;go_enter func103,ntmps103;go_wp2_with fail
 go_loopw [7,9] (fun n i wr=>∃ (k:Nat) (nn:Int) (rr:Fd.Dr),k≤many∧i=.int .i64 k∧n=.int .i64 nn∧0≤nn∧nn≤99999∧Hid (nn≤10 ^ k - 1)∧Hid (Fd.digD many 0 r=Fd.digD (many - k) nn rr)∧Hid (DrS wr R rr)∧Hid (Ap (fun b=>b=R) w wr)) (fun _ i _=>many - (intOf i).toNat)
 case atStart=>exact⟨0,0,r,Nat.zero_le _,rfl,rfl,by omega,by omega,by show _≤_;simp,rfl,HR,Ap.refl _ _⟩
 case round =>
  clear HR;obtain⟨k,nn,rr,hk,rfl,rfl,h1,h2,HB,HD,DR,AP⟩:=hrel
  by_cases hlt:k < many
  ·have HS:=Ld (z1t Fd.tenD rr R wr DR.out (by decide))
   have HNX:Hid (Fd.digD (many - k) nn rr=Fd.digD (many - (k + 1)) (10 * nn + max 0 ((((Fd.V4 Fd.tenD rr).1.toNat:Nat):Int) - 48)) (Fd.V4 Fd.tenD rr).2):=by
    show _=_;rw[show many - k=(many - (k + 1)) + 1 by omega];rfl
   obtain⟨g1,g2⟩:=Fd.j4z rr;generalize Fd.V4 Fd.tenD rr=sg at HS HNX g1 g2;obtain⟨c,r2⟩:=sg;simp only at HS HNX g1 g2;have hcl:=c.toNat_lt;go_wp2_with fail;refine HS.out.mono ?_;rintro e w1 ⟨rfl,hd1,ha1⟩;have DR1:=Ld hd1;have AP1:=Ld (AP.out.trans ha1);clear hd1 ha1 HS;go_wp2_with fail;have hpw:nn≤10 ^ k - 1:=HB.out;have hps:(10:Int) ^ (k + 1)=10 * 10 ^ k:=by rw[Int.pow_succ];omega
   have HB2:Hid (10 * nn + max 0 (((c.toNat:Nat):Int) - 48)≤10 ^ (k + 1) - 1):=by show _≤_;omega
   have h9:10 * nn + max 0 (((c.toNat:Nat):Int) - 48)≤99999:=by
    have hk3:k=0∨k=1∨k=2∨k=3:=by omega
    rcases hk3 with rfl | rfl | rfl | rfl <;> simp at hpw <;> omega
   have h8:0≤10 * nn + max 0 (((c.toNat:Nat):Int) - 48):=by omega
   clear hpw hps;go_roundw
   case rel=>exact⟨k + 1,_,r2,by omega,by go_num,rfl,h8,h9,HB2,by show _=_;rw[HD.out,HNX.out],DR1,AP1⟩
   case measure=>simp[intOf];omega
  ·have hke:k=many:=by omega
   have HE:Hid (out=(nn,⟨rr.s,rr.short || decide (most < nn)⟩)):=by
    show _=_;have h:=HD.out;rw[hke,Nat.sub_self] at h;rw[HDD.out,h];rfl
   obtain⟨s,sh⟩:=rr;simp only at HE;have c1:wr.cell? ⟨R,1,none⟩=some (.bool sh):=Blk.cell DR.out 1;have f1:wr.frozen? ⟨R,1,none⟩=false:=Blk.frozen DR.out 1;clear hke HD HDD
   cases sh with
   | true =>
    go_wp2_with fail;go_ret;exact⟨by rw[HE.out];rfl,by rw[HE.out];exact Blk.set_ DR.out 1 _,AP.out.setCell (p:=⟨R,1,none⟩) rfl _,by rw[HE.out];exact h1,by rw[HE.out];exact h2⟩
   | false =>
    go_wp2_with fail;go_ret;exact⟨by rw[HE.out];rfl,by rw[HE.out];exact Blk.set_ DR.out 1 _,AP.out.setCell (p:=⟨R,1,none⟩) rfl _,by rw[HE.out];exact h1,by rw[HE.out];exact h2⟩
theorem q9d (r:Fd.Dr) (R:Nat) (w:World) (h:DrS w R r) :
  Calls prog 105 #[.pointer (some ⟨R,0,none⟩)] w fun e w'=>e=.returned (.int .i64 (Fd.z4d r).1)∧DrS w' R (Fd.z4d r).2∧Ap (fun b=>b=R) w w'∧0≤(Fd.z4d r).1∧(Fd.z4d r).1≤400000000:=by
 have HH:=Ld (fun (W:World) (rr:Fd.Dr) (hW:DrS W R rr)=>z1g 2 23 rr R W hW (by decide));have HM:=Ld (fun (W:World) (rr:Fd.Dr) (hW:DrS W R rr)=>z1g 2 59 rr R W hW (by decide));have HS:=Ld (fun (W:World) (rr:Fd.Dr) (hW:DrS W R rr)=>z1t [58] rr R W hW (by decide));have HC:Hid (Fd.z4d r=(3600 * (Fd.Y0 2 23 r).1 + 60 * (Fd.Y0 2 59 (Fd.V4 [58] (Fd.Y0 2 23 r).2).2).1 + (Fd.Y0 2 59 (Fd.V4 [58] (Fd.Y0 2 59 (Fd.V4 [58] (Fd.Y0 2 23 r).2).2).2).2).1,(Fd.Y0 2 59 (Fd.V4 [58] (Fd.Y0 2 59 (Fd.V4 [58] (Fd.Y0 2 23 r).2).2).2).2).2)):=rfl;have DR:=Ld h;clear h;generalize Fd.z4d r=out at HC ⊢;go_enter func105,ntmps105;have K1:=Ld (HH.out w r DR.out);generalize Fd.Y0 2 23 r=x1 at K1 HC;go_wp2_with fail;refine K1.out.mono ?_;rintro e w1 ⟨rfl,hd1,ha1,p1,p2⟩;have DR1:=Ld hd1;have AP1:=Ld ha1;clear hd1 ha1 K1;have K2:=Ld (HS.out w1 _ DR1.out);generalize Fd.V4 [58] x1.2=x2 at K2 HC;go_wp2_with fail;refine K2.out.mono ?_;rintro e w2 ⟨rfl,hd2,ha2⟩;have DR2:=Ld hd2;have AP2:=Ld (AP1.out.trans ha2);clear hd2 ha2 K2;have K3:=Ld (HM.out w2 _ DR2.out);generalize Fd.Y0 2 59 x2.2=x3 at K3 HC;go_wp2_with fail;refine K3.out.mono ?_;rintro e w3 ⟨rfl,hd3,ha3,p3,p4⟩;have DR3:=Ld hd3;have AP3:=Ld (AP2.out.trans ha3);clear hd3 ha3 K3;have K4:=Ld (HS.out w3 _ DR3.out);generalize Fd.V4 [58] x3.2=x4 at K4 HC;go_wp2_with fail;refine K4.out.mono ?_;rintro e w4 ⟨rfl,hd4,ha4⟩;have DR4:=Ld hd4;have AP4:=Ld (AP3.out.trans ha4);clear hd4 ha4 K4;have K5:=Ld (HM.out w4 _ DR4.out);generalize Fd.Y0 2 59 x4.2=x5 at K5 HC;obtain⟨a1,b1⟩:=x1;obtain⟨a3,b3⟩:=x3;obtain⟨a5,b5⟩:=x5;simp only at *;go_wp2_with fail;refine K5.out.mono ?_;rintro e w5 ⟨rfl,hd5,ha5,p5,p6⟩;have DR5:=Ld hd5;have AP5:=Ld (AP4.out.trans ha5);clear hd5 ha5 K5;go_wp2_with fail;go_ret;exact⟨by rw[HC.out];rfl,by rw[HC.out];exact DR5.out,AP5.out,by rw[HC.out];show 0≤3600 * a1 + 60 * a3 + a5;omega,by rw[HC.out];show 3600 * a1 + 60 * a3 + a5≤_;omega⟩
theorem j0e (n:List UInt8) (w:World) :
  Calls prog 162 #[.string (st n)] w fun e w'=>e=.returned (.bool (Mk.z4f n))∧w'=w:=by
 have hst:(st n).toList=n:=Lib.toList_data _;go_enter func162,ntmps162;go_wp2_with fail
 all_goals (go_ret;refine⟨Z8 ?_,rfl⟩;first | rfl | (simp[Mk.z4f, *];done) | trace_state)
theorem j7t (n:List UInt8) (w:World) :
  Calls prog 241 #[.string (st n)] w fun e w'=>e=.returned (.bool (Mk.q1r n))∧w'=w:=by
 have hst:(st n).toList=n:=Lib.toList_data _;go_enter func241,ntmps241;go_wp2_with fail
 all_goals (go_ret;refine⟨Z8 ?_,rfl⟩;first | rfl | (simp[Mk.q1r,Mk.q26, *];done) | trace_state)
theorem tr_block (n:List UInt8) (w:World) :
  Calls prog 240 #[.string (st n)] w fun e w'=>e=.returned (.bool (Mk.q2j n))∧w'=w:=by
 have hst:(st n).toList=n:=Lib.toList_data _;have hw:=fun W=>j7t n W
 have hb:Mk.q2j n=(Mk.q1r n || n == [112] || n == [104,114]):=rfl;generalize Mk.q1r n=a at hw hb;have HW:=Ld hw;have HB:=Ld hb;clear hw hb;go_enter func240,ntmps240;go_wp2_with (go_at_call 241;refine(HW.out _).mono ?_;rintro e w' ⟨rfl,rfl⟩)
 all_goals (go_ret;refine⟨Z8 ?_,rfl⟩;rw[HB.out];first | rfl | (simp[*];done))
theorem tr_list (n:List UInt8) (w:World) :
  Calls prog 242 #[.string (st n)] w fun e w'=>e=.returned (.bool (Mk.q26 n))∧w'=w:=by
 have hst:(st n).toList=n:=Lib.toList_data _;go_enter func242,ntmps242;go_wp2_with fail
 all_goals (go_ret;refine⟨Z8 ?_,rfl⟩;first | rfl | (simp[Mk.q26, *];done))
theorem tr_none (n:List UInt8) (w:World) :
  Calls prog 193 #[.string (st n)] w fun e w'=>e=.returned (.bool false)∧w'=w:=by
 go_enter func193,ntmps193;go_wp2_with fail;go_ret;exact⟨rfl,rfl⟩
theorem j4v (n:List UInt8) (w:World) :
  Calls prog 137 #[.string (st n)] w fun e w'=>e=.returned (.bool (Mk.q19 n))∧w'=w:=by
 have hst:(st n).toList=n:=Lib.toList_data _;go_enter func137,ntmps137;go_wp2_with fail
 all_goals (go_ret;refine⟨Z8 ?_,rfl⟩;first | rfl | (simp[Mk.q19, *];done))
theorem cl_gone (n:List UInt8) (w:World) :
  Calls prog 249 #[.string (st n)] w fun e w'=>e=.returned (.bool (Mk.q82 n))∧w'=w:=by
 have hst:(st n).toList=n:=Lib.toList_data _;go_enter func249,ntmps249;go_wp2_with fail
 all_goals (go_ret;refine⟨Z8 ?_,rfl⟩;first | rfl | (simp[Mk.q82, *];done))
end Go.Proofs.YtjonkbdldebkiaaGreatDoor
namespace Mk
theorem q5o (x:Bs) (q:Bs→Bool) (l:List Bs):above x q (l.take 0)=none:=by simp[above,q5n]
theorem q2f (x:Bs) (q:Bs→Bool) (l:List Bs) (k:Nat) (h:k < l.length):above x q (l.take (k + 1))=if l[k]=x then some k else if q l[k] then none else above x q (l.take k):=by
 unfold above;rw[List.take_succ_eq_append_getElem h,List.reverse_append];show q5n x q (l[k] :: (l.take k).reverse)=_;rw[q5n,List.length_reverse,List.length_take,Nat.min_eq_left (by omega)]
theorem q3x (x:Bs) (q:Bs→Bool) (l:List Bs) (i:Nat) (h:above x q l=some i):i < l.length:=by
 have key:∀ k,k≤l.length→above x q (l.take k)=some i→i < k:=by
  intro k
  induction k with
  | zero=>intro _ h;rw[q5o] at h;cases h
  | succ k ih =>
   intro hk h;rw[q2f x q l k (by omega)] at h
   split at h
   ·injection h with h;omega
   split at h
   ·cases h
   ·have:=ih (by omega) h;omega
 exact key l.length (Lr) (by rw[List.take_length];exact h)
end Mk
namespace Go.Proofs.YtjonkbdldebkiaaGreatDoor
open Go.Proofs.Tryz Go.RowKit
def Y6 (l:List (List UInt8)):List Value:=l.map fun x=>.string (st x)
def z0n (w:World) (K:Nat→Prop) (v:Value) (l:List (List UInt8)):Prop:=∃ ao cap,v=.slice ao l.length cap∧l.length≤cap∧z19 w K ao (Y6 l)∧cap≤maxLen
theorem z0n.frame {w w':World} {K K':Nat→Prop} {v:Value} {l:List (List UInt8)} (h:z0n w K v l) (hk:∀ b,K b→K' b∧w'.heap[b]? = w.heap[b]?):z0n w' K' v l:=by
 obtain⟨ao,cap,h1,h2,h3,h4⟩:=h;exact⟨ao,cap,h1,h2,h3.frame hk,h4⟩
theorem z0n.nil (w:World) (K:Nat→Prop):z0n w K (.slice none 0 0) []:=⟨none,0,rfl,Lr,.inl rfl,Nat.zero_le _⟩
theorem z0n.at_ {w:World} {K:Nat→Prop} {v:Value} {l:List (List UInt8)} (h:z0n w K v l):∃ ao cap,v=.slice ao l.length cap∧l.length≤cap∧cap≤maxLen∧(l=[]∨∃ g o,ao=some ⟨g,o,none⟩∧K g∧∀ k (hk:k < l.length),w.cell? ⟨g,o + k,none⟩=some (.string (st l[k]))):=by
 obtain⟨ao,cap,h1,h2,h3,h4⟩:=h;refine⟨ao,cap,h1,h2,h4,?_⟩
 rcases h3 with h3 | ⟨g,o,e1,e2,e3⟩
 ·left;simpa [Y6] using h3
 ·right
  exact⟨g,o,e1,e2,fun k hk=>e3 k _ (by simp[Y6,List.getElem?_eq_getElem hk])⟩
theorem z0n.take {w:World} {K:Nat→Prop} {ao:Option Addr} {cap:Nat} {l:List (List UInt8)} (h:z0n w K (.slice ao l.length cap) l) (i:Nat) (hi:i≤l.length):z0n w K (.slice ao i cap) (l.take i):=by
 obtain⟨ao',cap',h1,h2,h3,h4⟩:=h;injection h1 with e1 e2 e3;subst e1;subst e3;refine⟨ao,cap,by rw[List.length_take,Nat.min_eq_left hi],by rw[List.length_take];omega,?_,h4⟩
 rcases h3 with h3 | ⟨g,o,e1,e2,e3⟩
 ·left
  have:l=[]:=by simpa [Y6] using h3
  subst this;simp[Y6]
 ·refine .inr ⟨g,o,e1,e2,fun k v hk=>e3 k v ?_⟩
  unfold Y6 at hk ⊢;rw[List.map_take] at hk;rw[List.getElem?_take] at hk
  split at hk
  ·exact hk
  ·cases hk
def optV:Option Nat→Value | none=>.int .i64 (-1) | some i=>.int .i64 i
def AsksS (g:FuncId) (q:List UInt8→Bool):Prop:=∀ (s:List UInt8) (w:World),Calls prog g #[.string (st s)] w fun e w'=>e=.returned (.bool (q s))∧w'=w
theorem q5f (g:FuncId) (q:List UInt8→Bool) (eg:∀ args w,(callFunc g args).run prog w=.ok (.enter g args) w) (hq:AsksS g q) (l:List (List UInt8)) (x:List UInt8) (v:Value) (K:Nat→Prop) (w:World) (hv:z0n w K v l) (hl:l.length≤33554432) :
  Calls prog 192 #[v,.string (st x),.func (.func g) #[] #[]] w fun e w'=>e=.returned (optV (Mk.above x q l))∧w'=w:=by
 obtain⟨ao,cap,rfl,hcap,hcm,hat⟩:=hv.at_
 have HQ:=Ld hq;have HA:=Ld hat
 clear hq hat hv;go_enter func192,ntmps192;go_wp2_with fail
 go_loopw [7] (fun i wr=>∃ k:Nat,k≤l.length∧i=.int .i64 ((k:Int) - 1)∧wr=w∧Hid (Mk.above x q l=Mk.above x q (l.take k))) (fun i _=>(intOf i + 1).toNat)
 case atStart=>exact⟨l.length,Lr,by go_num,rfl,by show _=_;rw[List.take_length]⟩
 case round =>
  obtain⟨k,hk,rfl,rfl,HK⟩:=hrel
  cases k with
  | zero =>
   have HE:Hid (Mk.above x q l=none):=by show _=_;rw[HK.out,Mk.q5o]
   clear HK;go_wp2_with fail;go_ret;exact⟨by rw[HE.out];rfl,rfl⟩
  | succ k =>
   have hlt:k < l.length:=by omega
   rcases HA.out with h0 | ⟨b,o,hao,_,hcl⟩
   ·rw[h0] at hlt;simp at hlt
   subst hao;have c0:=hcl k hlt;have HX:Hid (Mk.above x q l=if l[k]=x then some k else if q l[k] then none else Mk.above x q (l.take k)):=by show _=_;rw[HK.out,Mk.q2f x q l k hlt]
   have hst:∀ l:List UInt8,(st l).toList=l:=fun l=>Lib.toList_data _
   have hki:(((k + 1:Nat):Int) - 1)=(k:Int):=by omega
   rw[hki];have hk0:(0:Int)≤k:=by omega
   have hkl:(k:Int) < l.length:=by omega
   generalize l[k]=n at c0 HX;clear HK HA hcl hki
   by_cases hnx:n=x
   ·subst hnx
    have hb:(n == n)=true:=beq_self_eq_true n;rw[if_pos rfl] at HX;go_wp2_with fail;go_ret;exact⟨by rw[HX.out];rfl,rfl⟩
   ·rw[if_neg hnx] at HX
    have hb:(n == x)=false:=beq_eq_false_iff_ne.2 hnx;have hcall:=HQ.out n wr;generalize q n=bq at hcall HX;have HC:=Ld hcall;clear hcall
    cases bq with
    | true =>
     go_wp2_with fail;refine HC.out.mono ?_;rintro e w1 ⟨rfl,rfl⟩;go_wp2_with fail;go_ret;exact⟨by rw[HX.out];rfl,rfl⟩
    | false =>
     go_wp2_with fail;refine HC.out.mono ?_;rintro e w1 ⟨rfl,rfl⟩;go_wp2_with fail;go_roundw
     case rel=>exact⟨k,by omega,by go_num,by trivial,by show _=_;rw[HX.out];rfl⟩
     case measure=>simp[intOf]

theorem eg_wall (args:Array Value) (w:World):(callFunc 241 args).run prog w=.ok (.enter 241 args) w:=Z7 func241 (by kernel_rfl) rfl _ _
theorem eg_list (args:Array Value) (w:World):(callFunc 242 args).run prog w=.ok (.enter 242 args) w:=Z7 func242 (by kernel_rfl) rfl _ _
def stays1 (l:List (List UInt8)) (n:List UInt8):List (List UInt8):=if Mk.q2j n then Mk.q1x l (Mk.above [112] Mk.q1r l) else l
def q3j (l:List (List UInt8)) (n:List UInt8):List (List UInt8):=if n == [108,105] then Mk.q1x l (Mk.above [108,105] Mk.q26 l) else l
theorem stays_is (l:List (List UInt8)) (n:List UInt8):Mk.stays l n=(q3j (stays1 l n) n).length:=rfl
theorem j4x (l:List (List UInt8)) (o:Option Nat):(Mk.q1x l o).length≤l.length:=by
 cases o with
 | none=>exact Lr
 | some k=>show (l.take k).length≤l.length;rw[List.length_take];exact Nat.min_le_right _ _
theorem tr_stays (l:List (List UInt8)) (n:List UInt8) (v:Value) (K:Nat→Prop) (w:World) (hv:z0n w K v l) (hl:l.length≤33554432) :
  Calls prog 190 #[v,.string (st n)] w fun e w'=>e=.returned (.int .i64 (Mk.stays l n))∧w'=w:=by
 have hst:(st n).toList=n:=Lib.toList_data _;have HV:=Ld hv;have hll:(stays1 l n).length≤33554432:=by unfold stays1;split;exact Nat.le_trans (j4x _ _) hl;exact hl
 clear hv;go_enter func190,ntmps190;go_wp2_with fail;refine(tr_block n w).mono ?_;rintro e w1 ⟨rfl,hw⟩;subst hw;go_upto_if 8 with fail
 go_cut [0] (fun v wx=>wx=w1∧Hid (z0n w1 K v (stays1 l n)))
 case first =>
  cases hbl:Mk.q2j n with
  | false =>
   have HV1:Hid (z0n w1 K v (stays1 l n)):=by show z0n _ _ _ _;rw[stays1,hbl];exact HV.out
   clear hbl;go_wp2_with fail;go_meet
   case rel=>exact⟨rfl,HV1⟩
  | true =>
   have ha:=q5f 241 Mk.q1r eg_wall j7t l [112] v K w1 HV.out hl;obtain⟨o,ho⟩:∃ o,Mk.above [112] Mk.q1r l=o:=⟨_,rfl⟩;have h1:stays1 l n=Mk.q1x l o:=by rw[stays1,hbl,if_pos rfl,ho]
   have hlt:=Mk.q3x [112] Mk.q1r l;rw[ho] at ha hlt;have HA:=Ld ha;have H1:=Ld h1;clear ha h1 hbl ho
   cases o with
   | none =>
    clear hlt;go_wp2_with fail;refine HA.out.mono ?_;rintro e w2 ⟨rfl,hw⟩;subst hw;unfold optV;go_wp2_with fail;go_meet
    case rel=>exact⟨rfl,by rw[H1.out];exact HV⟩
   | some i =>
    have hi:=hlt i rfl;obtain⟨ao,cap,rfl,hcap,hcm,_⟩:=HV.out.at_
    have HT:=Ld (HV.out.take i (by omega));clear hlt;go_wp2_with fail;refine HA.out.mono ?_;rintro e w2 ⟨rfl,hw⟩;subst hw;unfold optV;have hi0:(0:Int)≤i:=by omega
    have hic:(i:Int)≤cap:=by omega
    go_wp2_with fail;go_meet
    case rel=>exact⟨rfl,by rw[H1.out];exact HT⟩
 case rest =>
  obtain⟨hw,HV1⟩:=hcut;subst hw;have hs2:=stays_is l n;generalize stays1 l n=l1 at HV1 hll hs2;have HS2:=Ld hs2;clear hs2;go_upto_if 17 with fail
  go_cut [0] (fun v wx=>wx=wc∧Hid (z0n wc K v (q3j l1 n)))
  case first =>
   cases hbl:(n == [108,105]) with
   | false =>
    have HV2:Hid (z0n wc K u0 (q3j l1 n)):=by show z0n _ _ _ _;rw[q3j,hbl];exact HV1.out
    clear HV;go_wp2_with fail;go_meet
    case rel=>exact⟨rfl,HV2⟩
   | true =>
    have ha:=q5f 242 Mk.q26 eg_list tr_list l1 [108,105] u0 K wc HV1.out hll;obtain⟨o,ho⟩:∃ o,Mk.above [108,105] Mk.q26 l1=o:=⟨_,rfl⟩;have h1:q3j l1 n=Mk.q1x l1 o:=by rw[q3j,hbl,if_pos rfl,ho]
    have hlt:=Mk.q3x [108,105] Mk.q26 l1;rw[ho] at ha hlt;have HA:=Ld ha;have H1:=Ld h1;clear ha h1 ho HV
    cases o with
    | none =>
     clear hlt;go_wp2_with fail;refine HA.out.mono ?_;rintro e w2 ⟨rfl,hw⟩;subst hw;unfold optV;go_wp2_with fail;go_meet
     case rel=>exact⟨rfl,by rw[H1.out];exact HV1⟩
    | some i =>
     have hi:=hlt i rfl;obtain⟨ao,cap,rfl,hcap,hcm,_⟩:=HV1.out.at_
     have HT:=Ld (HV1.out.take i (by omega));clear hlt;go_wp2_with fail;refine HA.out.mono ?_;rintro e w2 ⟨rfl,hw⟩;subst hw;unfold optV;have hi0:(0:Int)≤i:=by omega
     have hic:(i:Int)≤cap:=by omega
     go_wp2_with fail;go_meet
     case rel=>exact⟨rfl,by rw[H1.out];exact HT⟩
  case rest =>
   obtain⟨hw,HV2⟩:=hcut;subst hw;obtain⟨ao,cap,rfl,hcap,hcm,_⟩:=HV2.out.at_
   go_wp2_with fail;go_ret;exact⟨by rw[HS2.out];rfl,rfl⟩
end Go.Proofs.YtjonkbdldebkiaaGreatDoor
namespace Mk
namespace Fo
def drop:Fo→Nat→Fo
 | f,0=>f
 | nil,_ + 1=>nil
 | node _ _ _ _ r,k + 1=>drop r k
def atB (l:List At):Nat:=(l.map fun a=>1 + a.n.length + a.v.length).sum
def bulk:Fo→Nat
 | nil=>0
 | node n a t k r=>1 + n.length + t.length + atB a + bulk k + bulk r
theorem drop_zero (f:Fo):drop f 0=f:=by cases f <;> rfl
theorem z4e:∀ (f:Fo),drop f f.len=nil
 | nil=>rfl
 | node _ _ _ _ r=>by show drop r r.len=nil;exact z4e r
theorem z6j:∀ (f:Fo) (k:Nat),k < f.len→∃ n a t kk r,drop f k=node n a t kk r∧drop f (k + 1)=r
 | nil,k,h=>absurd h (Nat.not_lt_zero _)
 | node n a t kk r,0,_=>⟨n,a,t,kk,r,rfl,by show drop r 0=r;exact drop_zero r⟩
 | node n a t kk r,k + 1,h=>by
  obtain⟨n',a',t',k',r',h1,h2⟩:=z6j r k (by simp[len] at h;omega);exact⟨n',a',t',k',r',h1,h2⟩
theorem z1z:∀ (f:Fo) (k:Nat),bulk (drop f k)≤bulk f
 | f,0=>by rw[drop_zero];exact Lr
 | nil,_ + 1=>Lr
 | node n a t kk r,k + 1=>by
  have:=z1z r k;show bulk (drop r k)≤1 + n.length + t.length + atB a + bulk kk + bulk r;omega
theorem j5f (f:Fo) (k:Nat):(drop f k).len=f.len - k:=by
 induction k generalizing f with
 | zero=>rw[drop_zero];rfl
 | succ k ih =>
  cases f with
  | nil=>simp[drop,len]
  | node n a t kk r=>show (drop r k).len=r.len + 1 - (k + 1);rw[ih];omega
theorem z1r:∀ f:Fo,f.len≤bulk f
 | nil=>Lr
 | node n a t kk r=>by have:=z1r r;show r.len + 1≤1 + n.length + t.length + atB a + bulk kk + bulk r;omega
end Fo
theorem z5f (l:List At):l.length≤Fo.atB l:=by
 induction l with
 | nil=>exact Lr
 | cons a t ih=>simp[Fo.atB] at ih ⊢;omega
theorem q0h {l:List At} {a:At} (h:a ∈ l):1 + a.n.length + a.v.length≤Fo.atB l:=by
 induction l with
 | nil=>cases h
 | cons b t ih =>
  rcases List.mem_cons.1 h with e | e
  ·subst e;simp[Fo.atB]
  ·have:=ih e;simp[Fo.atB] at this ⊢;omega
theorem q2s (m:Nat) (a:List At) (t:Bs) (k r:Fo):Q9 m (.node [] a t k r)=((Q9 m r).1 + 1,(Q9 m r).2):=by cases m <;> rfl
theorem j1y {n:Bs} (hn:n ≠ []) (a:List At) (t:Bs) (k r:Fo):Q9 0 (.node n a t k r)=((Q9 0 r).1 + 1,max 1 (Q9 0 r).2):=by
 rw[Q9];simp[hn]
theorem z0u {n:Bs} (hn:n ≠ []) (m:Nat) (a:List At) (t:Bs) (k r:Fo):Q9 (m + 1) (.node n a t k r)=((Q9 (m + 1) r).1 + 1 + (Q9 m k).1,max (max 1 ((Q9 m k).2 + 1)) (Q9 (m + 1) r).2):=by
 rw[Q9];simp[hn]
theorem z7g:∀ (m:Nat) (f:Fo),(Q9 m f).1≤Fo.bulk f∧(Q9 m f).2≤m + 1:=by
 intro m
 induction m with
 | zero =>
  intro f
  induction f with
  | nil=>exact⟨Lr,by simp[Q9]⟩
  | node n a t k r _ ihr =>
   unfold Q9 Fo.bulk;simp only
   split
   ·exact⟨by simp only;omega,ihr.2⟩
   ·exact⟨by simp only;omega,by simp only;omega⟩
 | succ m ihm =>
  intro f
  induction f with
  | nil=>exact⟨Lr,by simp[Q9]⟩
  | node n a t k r _ ihr =>
   have hk:=ihm k;unfold Q9 Fo.bulk;simp only
   split
   ·exact⟨by simp only;omega,ihr.2⟩
   ·exact⟨by simp only;omega,by simp only;omega⟩
end Mk
namespace Go.Proofs.YtjonkbdldebkiaaGreatDoor
open Go.Proofs.Tryz Go.RowKit
theorem z07.at_ {w:World} {K:Nat→Prop}:∀ {f:Mk.Fo} {xs:List Value},z07 w K f xs→∀ {k:Nat} {n:List UInt8} {a:List Mk.At} {t:List UInt8} {kk r:Mk.Fo},f.drop k=.node n a t kk r →
  ∃ va ao cap zs,xs[4 * k]? = some (.string (st n))∧xs[4 * k + 1]? = some va∧xs[4 * k + 2]? = some (.string (st t))∧xs[4 * k + 3]? = some (.slice ao kk.len cap)∧AtsV w K va a∧z19 w K ao zs∧kk.len≤maxLen∧z07 w K kk zs
 | .nil,_,_,k,_,_,_,_,_,hd=>by cases k <;> cases hd
 | .node n' a' t' k' r',xs,h,0,n,a,t,kk,r,hd=>by
  obtain⟨va,ao,cap,zs,ys,h1,h2,h3,h4,h5,h6⟩:=h;rw[Mk.Fo.drop_zero] at hd;injection hd with e1 e2 e3 e4 e5;subst e1;subst e2;subst e3;subst e4;subst e5;exact⟨va,ao,cap,zs,by rw[h1];rfl,by rw[h1];rfl,by rw[h1];rfl,by rw[h1];rfl,h2,h3,h4,h5⟩
 | .node n' a' t' k' r',xs,h,k + 1,n,a,t,kk,r,hd=>by
  obtain⟨va',ao',cap',zs',ys,h1,_,_,_,_,h6⟩:=h;have hd':r'.drop k=.node n a t kk r:=hd;obtain⟨va,ao,cap,zs,g1,g2,g3,g4,g5⟩:=z07.at_ h6 hd'
  have sh:∀ i v,ys[i]? = some v→xs[i + 4]? = some v:=by
   intro i v hi;rw[h1,List.getElem?_append_right (by simp)]
   simpa using hi
  exact⟨va,ao,cap,zs,by rw[show 4 * (k + 1)=4 * k + 4 by omega];exact sh _ _ g1,by rw[show 4 * (k + 1) + 1=4 * k + 1 + 4 by omega];exact sh _ _ g2,by rw[show 4 * (k + 1) + 2=4 * k + 2 + 4 by omega];exact sh _ _ g3,by rw[show 4 * (k + 1) + 3=4 * k + 3 + 4 by omega];exact sh _ _ g4,g5⟩
theorem FoV.at_ {w:World} {K:Nat→Prop} {v:Value} {f:Mk.Fo} (h:FoV w K v f):∃ g o cap,((v=.slice (some ⟨g,o,none⟩) f.len cap∧K g)∨∃ ao,v=.slice ao 0 cap∧f=.nil)∧f.len≤maxLen ∧
  ∀ k n a t kk r,f.drop k=.node n a t kk r→∃ va vk,w.cell? ⟨g,o + k * 4,none⟩=some (.string (st n))∧w.cell? ⟨g,o + k * 4 + 1,none⟩=some va∧w.cell? ⟨g,o + k * 4 + 2,none⟩=some (.string (st t))∧w.cell? ⟨g,o + k * 4 + 3,none⟩=some vk∧AtsV w K va a∧FoV w K vk kk:=by
 obtain⟨ao,cap,xs,h1,h2,h3,h4⟩:=h
 rcases h2 with h2 | ⟨g,o,e1,e2,e3⟩
 ·have hl:=h3.length
  rw[h2] at hl;have:f=.nil:=by
   cases f with
   | nil=>rfl
   | node _ _ _ _ _=>simp[Mk.Fo.len] at hl
  subst this;exact⟨0,0,cap,.inr ⟨ao,h1,rfl⟩,h4,fun k n a t kk r hd=>by cases k <;> cases hd⟩
 ·refine⟨g,o,cap,.inl ⟨by rw[h1,e1],e2⟩,h4,fun k n a t kk r hd=>?_⟩
  obtain⟨va,ao',cap',zs,g1,g2,g3,g4,g5,g6,g7,g8⟩:=h3.at_ hd
  rw[Nat.mul_comm k 4];exact⟨va,_,e3 _ _ g1,by rw[Nat.add_assoc];exact e3 _ _ g2,by rw[Nat.add_assoc];exact e3 _ _ g3,by rw[Nat.add_assoc];exact e3 _ _ g4,g5,ao',cap',zs,rfl,g6,g8,g7⟩
theorem FoV.below {w w':World} {K:Nat→Prop} {v:Value} {f:Mk.Fo} {B:Nat} (h:FoV w K v f) (hK:∀ b,K b→b < B) (hb:Below B w w'):FoV w' K v f:=h.frame fun b hk=>⟨hk,hb.block b (hK b hk)⟩
theorem AtsV.below {w w':World} {K:Nat→Prop} {v:Value} {f:List Mk.At} {B:Nat} (h:AtsV w K v f) (hK:∀ b,K b→b < B) (hb:Below B w w'):AtsV w' K v f:=h.frame fun b hk=>⟨hk,hb.block b (hK b hk)⟩
theorem z0n.below {w w':World} {K:Nat→Prop} {v:Value} {f:List (List UInt8)} {B:Nat} (h:z0n w K v f) (hK:∀ b,K b→b < B) (hb:Below B w w'):z0n w' K v f:=h.frame fun b hk=>⟨hk,hb.block b (hK b hk)⟩

theorem tr_Size (N:Nat):∀ (f:Mk.Fo) (m:Nat) (v:Value) (K:Nat→Prop) (w:World),f.bulk < N→f.bulk≤33554432→m≤8→FoV w K v f→(∀ b,K b→b < w.heap.size) →
  Calls prog 101 #[v,.int .i64 m] w fun e w'=>e=.returned (.tuple #[.int .i64 (Mk.Q9 m f).1,.int .i64 (Mk.Q9 m f).2])∧Below w.heap.size w w':=by
 induction N with
 | zero =>
  intro f m v K w hN;omega
 | succ N ih =>
  intro f m v K w hN hf hm hv hK;obtain⟨g,o,cap,hv1,hlen,hat⟩:=hv.at_
  have HAT:=Ld hat
  clear hat
  have hfl:=Mk.Fo.z1r f
  rcases hv1 with ⟨hv1,hKg⟩ | ⟨ao,hv1,hnil⟩
  ·have hgl:=hK g hKg
   subst hv1;go_enter func101,ntmps101;go_wp2_with fail
   go_loopw [6,7,16] (fun a b i wr=>∃ k many deep:Nat,k≤f.len∧i=.int .i64 k∧a=.int .i64 many∧b=.int .i64 deep∧many + (Mk.Q9 m (f.drop k)).1=(Mk.Q9 m f).1 + (f.drop k).len∧max deep (Mk.Q9 m (f.drop k)).2=(Mk.Q9 m f).2∧Hid (Below w.heap.size w wr)) (fun _ _ i _=>f.len - (intOf i).toNat)
   case atStart=>exact⟨0,f.len,0,Nat.zero_le _,rfl,rfl,rfl,by rw[Mk.Fo.drop_zero,Nat.add_comm],by rw[Mk.Fo.drop_zero,Nat.zero_max],Below.refl _ _⟩
   case round =>
    obtain⟨k,many,deep,hk,rfl,rfl,rfl,h1,h2,BL⟩:=hrel;have hsz:=BL.out.size
    by_cases hlt:k < f.len
    ·obtain⟨n,a,t,kk,r,hd,hd1⟩:=Mk.Fo.z6j f k hlt
     obtain⟨va,vk,c0,c1,c2,c3,hva,hvk⟩:=HAT.out k n a t kk r hd;rw[← BL.out.cell (p:=⟨g,_,none⟩) hgl] at c0 c1 c2 c3;have hdb:=Mk.Fo.z1z f k;rw[hd] at hdb h1 h2;have hkb:kk.bulk + r.bulk + 1≤f.bulk:=by
      have e:(Mk.Fo.node n a t kk r).bulk=1 + n.length + t.length + Mk.Fo.atB a + kk.bulk + r.bulk:=rfl;omega
     have hrl:=Mk.Fo.z1r r;have hlr:(Mk.Fo.node n a t kk r).len=r.len + 1:=rfl;obtain⟨aoa,capa,hva1,_⟩:=hva;obtain⟨aok,capk,xsk,hvk1,hvk2⟩:=hvk;subst hva1;subst hvk1;have hst:∀ l:List UInt8,(st l).toList=l:=fun l=>Lib.toList_data _
     have hsb:=Mk.z7g m f;have hal:=(Below.refl wr.heap.size wr).alloc (Lr) (.cells #[.string (st n),.slice aoa a.length capa,.string (st t),.slice aok kk.len capk] 53);have BL1:=Ld (BL.out.trans (hal.mono hsz))
     by_cases hn:n=[]
     ·subst hn
      have hst0:(st []).toList=[]:=Lib.toList_data _;rw[Mk.q2s] at h1 h2;simp only at h1 h2;clear HAT hal hd;go_wp2_with fail;go_roundw
      case rel=>exact⟨k + 1,many,deep,by omega,by go_num,rfl,rfl,by rw[hd1];omega,by rw[hd1];exact h2,BL1⟩
      case measure=>simp[intOf];omega
     ·have he:n.isEmpty=false:=by
       cases n with
       | nil=>exact absurd rfl hn
       | cons _ _=>rfl
      have hmx:max (deep:Int) 1=((max deep 1:Nat):Int):=by omega
      by_cases hm0:m=0
      ·subst hm0
       rw[Mk.j1y hn] at h1 h2;simp only at h1 h2;clear HAT hal hd;go_wp2_with fail;go_roundw
       case rel=>exact⟨k + 1,many,max deep 1,by omega,by go_num,rfl,by rw[← hmx],by rw[hd1];omega,by rw[hd1];omega,BL1⟩
       case measure=>simp[intOf];omega
      ·obtain⟨m',hm1⟩:∃ m',m=m' + 1:=⟨m - 1,by omega⟩
       have hss:=Mk.z0u hn m' a t kk r;rw[← hm1] at hss;rw[hss] at h1 h2;have hmm:(m:Int) - 1=m':=by omega
       have hmi:((m:Int) == 0)=false:=by rw[beq_eq_false_iff_ne];omega
       have HM1:=Ld hm1;have hfk:FoV w K (.slice aok kk.len capk) kk:=⟨aok,capk,xsk,rfl,hvk2⟩;have hrec:=ih kk m' (.slice aok kk.len capk) K (wr.alloc (.cells #[.string (st n),.slice aoa a.length capa,.string (st t),.slice aok kk.len capk] 53)) (by omega) (by omega) (by have:=HM1.out;omega) (hfk.below hK BL1.out) (fun b hb=>Nat.lt_of_lt_of_le (hK b hb) BL1.out.size);have hsk:=Mk.z7g m' kk;generalize Mk.Q9 m' kk=y at hrec h1 h2 hsk;obtain⟨y1,y2⟩:=y;simp only at h1 h2 hrec hsk;have HREC:=Ld hrec;have hmx2:max (((max deep 1:Nat):Int)) ((y2:Int) + 1)=((max (max deep 1) (y2 + 1):Nat):Int):=by omega
       clear HAT hal hd hrec hfk hvk2 hm1 hss;go_wp2_with fail;refine HREC.out.mono ?_;rintro e w2 ⟨rfl,hb2⟩;have BL2:=Ld (BL1.out.trans (hb2.mono BL1.out.size));have hdp:deep≤9:=by have:=HM1.out;omega
       clear hb2 HREC BL1;go_wp2_with fail;go_roundw
       case rel=>exact⟨k + 1,many + y1,max (max deep 1) (y2 + 1),by omega,by go_num,by go_num,by congr 1;omega,by rw[hd1];omega,by rw[hd1];omega,BL2⟩
       case measure=>simp[intOf];omega
    ·have hke:k=f.len:=by omega
     rw[hke,Mk.Fo.z4e] at h1 h2;have h1':many=(Mk.Q9 m f).1:=by simpa [Mk.Q9,Mk.Fo.len] using h1
     have h2':deep=(Mk.Q9 m f).2:=by simpa [Mk.Q9] using h2
     have H1:=Ld h1';have H2:=Ld h2';clear h1 h2 h1' h2' HAT;go_wp2_with fail;go_ret2;exact⟨by rw[H1.out,H2.out];rfl,BL.out⟩
  ·subst hnil
   subst hv1;clear HAT;go_enter func101,ntmps101;go_wp2_with fail
   go_loopw [6,7,16] (fun a b i wr=>a=.int .i64 0∧b=.int .i64 0∧i=.int .i64 0∧wr=w) (fun _ _ _ _=>0)
   case atStart=>exact⟨rfl,rfl,rfl,rfl⟩
   case round =>
    obtain⟨rfl,rfl,rfl,rfl⟩:=hrel;go_wp2_with fail;go_ret2;exact⟨by cases m <;> rfl,Below.refl _ _⟩
end Go.Proofs.YtjonkbdldebkiaaGreatDoor
namespace Mk
namespace Fo
def z6a:Fo→Bs
 | nil=>[]
 | node n _ _ _ nil=>n
 | node _ _ _ _ (node m b u j r)=>z6a (node m b u j r)
def lastT:Fo→Bs
 | nil=>[]
 | node _ _ t _ nil=>t
 | node _ _ _ _ (node m b u j r)=>lastT (node m b u j r)
def merges (f:Fo) (n:Bs):Bool:=decide (n=[]) && decide (f ≠ nil) && decide (z6a f=[])
theorem V6 (f:Fo) (n:Bs):merges f n=true↔n=[]∧f ≠ nil∧z6a f=[]:=by
 unfold merges;rw[Bool.and_eq_true,Bool.and_eq_true,decide_eq_true_iff,decide_eq_true_iff,decide_eq_true_iff];exact and_assoc
theorem z5o (n n':Bs) (a':List At) (t':Bs) (k':Fo) (m:Bs) (b:List At) (u:Bs) (j r:Fo):merges (node n' a' t' k' (node m b u j r)) n=merges (node m b u j r) n:=by
 rw[Bool.eq_iff_iff,V6,V6];constructor
 ·rintro ⟨h1,_,h3⟩;exact⟨h1,(by intro e;cases e),h3⟩
 ·rintro ⟨h1,_,h3⟩;exact⟨h1,(by intro e;cases e),h3⟩
theorem z4u (n:Bs):merges nil n=false:=by
 rw[Bool.eq_false_iff];intro h;exact((V6 _ _).1 h).2.1 rfl
theorem z7s:∀ (f:Fo) (n:Bs) (a:List At) (t:Bs) (k:Fo),merges f n=true→(snoc n a t k f).len=f.len
 | nil,n,a,t,k,h=>by rw[z4u] at h;cases h
 | node n' a' t' k' nil,n,a,t,k,h=>by
  have h1:n=[]∧n'=[]:=⟨((V6 _ _).1 h).1,((V6 _ _).1 h).2.2⟩;unfold snoc;rw[if_pos h1];rfl
 | node n' a' t' k' (node m b u j r),n,a,t,k,h=>by
  have:=z7s (node m b u j r) n a t k (by rwa [z5o] at h);show (snoc n a t k (node m b u j r)).len + 1=(node m b u j r).len + 1;rw[this]
theorem z5t:∀ (f:Fo) (n:Bs) (a:List At) (t:Bs) (k:Fo),merges f n=false→(snoc n a t k f).len=f.len + 1
 | nil,n,a,t,k,_=>rfl
 | node n' a' t' k' nil,n,a,t,k,h=>by
  have h1:¬ (n=[]∧n'=[]):=by
   rintro ⟨rfl,rfl⟩;rw[(V6 _ _).2 ⟨rfl,(by intro e;cases e),rfl⟩] at h;cases h
  unfold snoc;rw[if_neg h1];rfl
 | node n' a' t' k' (node m b u j r),n,a,t,k,h=>by
  have:=z5t (node m b u j r) n a t k (by rwa [z5o] at h);show (snoc n a t k (node m b u j r)).len + 1=(node m b u j r).len + 1 + 1;rw[this]
theorem z4y:∀ (f:Fo) (n:Bs) (a:List At) (t:Bs) (k:Fo),bulk (snoc n a t k f)≤bulk f + (1 + n.length + t.length + atB a + bulk k)
 | nil,n,a,t,k=>by show 1 + n.length + t.length + atB a + bulk k + 0≤0 + (1 + n.length + t.length + atB a + bulk k);omega
 | node n' a' t' k' nil,n,a,t,k=>by
  unfold snoc
  split
  ·show 1 + n'.length + (t'++t).length + atB a' + bulk k' + 0≤(1 + n'.length + t'.length + atB a' + bulk k' + 0) + (1 + n.length + t.length + atB a + bulk k)
   rw[List.length_append];omega
  ·show 1 + n'.length + t'.length + atB a' + bulk k' + (1 + n.length + t.length + atB a + bulk k + 0)≤(1 + n'.length + t'.length + atB a' + bulk k' + 0) + (1 + n.length + t.length + atB a + bulk k)
   omega
 | node n' a' t' k' (node m b u j r),n,a,t,k=>by
  have:=z4y (node m b u j r) n a t k;show 1 + n'.length + t'.length + atB a' + bulk k' + bulk (snoc n a t k (node m b u j r))≤(1 + n'.length + t'.length + atB a' + bulk k' + bulk (node m b u j r)) + (1 + n.length + t.length + atB a + bulk k);omega
theorem z9a:∀ (g f:Fo),bulk (joins f g)≤bulk f + bulk g
 | nil,f=>Lr
 | node n a t k r,f=>by
  have h1:=z9a r (snoc n a t k f);have h2:=z4y f n a t k;show bulk (joins (snoc n a t k f) r)≤bulk f + (1 + n.length + t.length + atB a + bulk k + bulk r);omega
theorem z7a:∀ f:Fo,(lastT f).length≤bulk f
 | nil=>Lr
 | node n a t k nil=>by show t.length≤1 + n.length + t.length + atB a + bulk k + 0;omega
 | node n a t k (node m b u j r)=>by
  have:=z7a (node m b u j r);show (lastT (node m b u j r)).length≤1 + n.length + t.length + atB a + bulk k + bulk (node m b u j r);omega
end Fo
end Mk
namespace Go.Proofs.YtjonkbdldebkiaaGreatDoor
open Go.RowKit
theorem z07.push {w:World} {K:Nat→Prop} {n:List UInt8} {a:List Mk.At} {t:List UInt8} {k:Mk.Fo} {va:Value} {ao:Option Addr} {cap:Nat} {zs:List Value} (h2:AtsV w K va a) (h3:z19 w K ao zs) (h4:k.len≤maxLen) (h5:z07 w K k zs):∀ (f:Mk.Fo) (xs:List Value),z07 w K f xs→f.merges n=false→z07 w K (Mk.Fo.snoc n a t k f) (xs++[.string (st n),va,.string (st t),.slice ao k.len cap])
 | .nil,xs,h,_=>by
  have h:xs=[]:=h;subst h;exact⟨va,ao,cap,zs,[],rfl,h2,h3,h4,h5,rfl⟩
 | .node n' a' t' k' .nil,xs,h,hm=>by
  obtain⟨va',ao',cap',zs',ys,g1,g2,g3,g4,g5,g6⟩:=h;have g6:ys=[]:=g6;subst g6;have h1:¬ (n=[]∧n'=[]):=by
   rintro ⟨rfl,rfl⟩;rw[(Mk.Fo.V6 _ _).2 ⟨rfl,(by intro e;cases e),rfl⟩] at hm;cases hm
  unfold Mk.Fo.snoc;rw[if_neg h1,g1];exact⟨va',ao',cap',zs',_,by simp only [List.append_nil],g2,g3,g4,g5,va,ao,cap,zs,[],rfl,h2,h3,h4,h5,rfl⟩
 | .node n' a' t' k' (.node m b u j r),xs,h,hm=>by
  obtain⟨va',ao',cap',zs',ys,g1,g2,g3,g4,g5,g6⟩:=h;have:=z07.push (n:=n) (t:=t) (cap:=cap) h2 h3 h4 h5 (.node m b u j r) ys g6 (by rwa [Mk.Fo.z5o] at hm);rw[g1,List.append_assoc];exact⟨va',ao',cap',zs',_,rfl,g2,g3,g4,g5,this⟩
theorem z07.merge {w:World} {K:Nat→Prop} {n:List UInt8} {a:List Mk.At} {t:List UInt8} {k:Mk.Fo}:∀ (f:Mk.Fo) (xs:List Value),z07 w K f xs→f.merges n=true→z07 w K (Mk.Fo.snoc n a t k f) (xs.set (4 * (f.len - 1) + 2) (.string (st (f.lastT++t))))
 | .nil,xs,h,hm=>by rw[Mk.Fo.z4u] at hm;cases hm
 | .node n' a' t' k' .nil,xs,h,hm=>by
  obtain⟨va',ao',cap',zs',ys,g1,g2,g3,g4,g5,g6⟩:=h;have h1:n=[]∧n'=[]:=⟨((Mk.Fo.V6 _ _).1 hm).1,((Mk.Fo.V6 _ _).1 hm).2.2⟩;unfold Mk.Fo.snoc;rw[if_pos h1,g1];exact⟨va',ao',cap',zs',ys,rfl,g2,g3,g4,g5,g6⟩
 | .node n' a' t' k' (.node m b u j r),xs,h,hm=>by
  obtain⟨va',ao',cap',zs',ys,g1,g2,g3,g4,g5,g6⟩:=h;have hh:=z07.merge (n:=n) (a:=a) (t:=t) (k:=k) (.node m b u j r) ys g6 (by rwa [Mk.Fo.z5o] at hm);refine⟨va',ao',cap',zs',_,?_,g2,g3,g4,g5,hh⟩;rw[g1];have e:4 * ((Mk.Fo.node n' a' t' k' (.node m b u j r)).len - 1) + 2=4 + (4 * ((Mk.Fo.node m b u j r).len - 1) + 2):=by
   show 4 * (r.len + 1 + 1 - 1) + 2=4 + (4 * (r.len + 1 - 1) + 2);omega
  rw[e,List.set_append_right _ _ (by simp)];simp[Mk.Fo.lastT]
theorem z07.last_ {w:World} {K:Nat→Prop}:∀ (f:Mk.Fo) (xs:List Value),z07 w K f xs→f ≠ .nil→xs[4 * (f.len - 1)]? = some (.string (st f.z6a))∧xs[4 * (f.len - 1) + 2]? = some (.string (st f.lastT))
 | .nil,_,_,hn=>absurd rfl hn
 | .node n' a' t' k' .nil,xs,h,_=>by
  obtain⟨va',ao',cap',zs',ys,g1,_⟩:=h;rw[g1];exact⟨rfl,rfl⟩
 | .node n' a' t' k' (.node m b u j r),xs,h,_=>by
  obtain⟨va',ao',cap',zs',ys,g1,g2,g3,g4,g5,g6⟩:=h;obtain⟨h1,h2⟩:=z07.last_ (.node m b u j r) ys g6 (by intro e;cases e);have e:(Mk.Fo.node n' a' t' k' (.node m b u j r)).len - 1=((Mk.Fo.node m b u j r).len - 1) + 1:=by
   show r.len + 1 + 1 - 1=(r.len + 1 - 1) + 1;omega
  rw[g1,e];constructor
  ·rw[show 4 * ((Mk.Fo.node m b u j r).len - 1 + 1)=4 * ((Mk.Fo.node m b u j r).len - 1) + 4 by omega,List.getElem?_append_right (by simp)]
   simpa [Mk.Fo.z6a] using h1
  ·rw[show 4 * ((Mk.Fo.node m b u j r).len - 1 + 1) + 2=4 * ((Mk.Fo.node m b u j r).len - 1) + 2 + 4 by omega,List.getElem?_append_right (by simp)]
   simpa [Mk.Fo.lastT] using h2
theorem z4n {w:World} {B size n:Nat} {e:TypeId} {v:Value} {xs:List Value} (h:w.ownsRow B e size v n xs) {g:Nat} (hg:v.ownBlock=some g) (i:Nat) (u:Value):(w.setCell ⟨g,i,none⟩ u).ownsRow B e size v n (xs.set i u):=by
 refine⟨by rw[List.length_set];exact h.1,?_⟩
 rcases h.2 with ⟨hv,_⟩ | ⟨g',cap,cur,hv,hb,hh,hnc,hcm,hcs,ht⟩
 ·rw[hv] at hg;cases hg
 ·rw[hv] at hg
  injection hg with hg;have hg:g'=g:=hg;subst hg;refine .inr ⟨g',cap,cur.setIfInBounds i u,hv,hb,?_,hnc,hcm,by simpa using hcs,?_⟩
  ·have:=Blk.set_ (w:=w) (g:=g') (t:=e) (cs:=cur) hh i u
   exact this
  ·rw[← ht,Array.toList_setIfInBounds,List.take_set]
structure OwnF (w:World) (B:Nat) (K:Nat→Prop) (v:Value) (f:Mk.Fo) (xs:List Value):Prop where
 own:w.ownsRow B 53 4 v f.len xs
 cells:z07 w K f xs
 ne:∀ g,v.ownBlock=some g→¬ K g
 le:∀ b,K b→b < w.heap.size
theorem OwnF.frame {w w':World} {B:Nat} {K:Nat→Prop} {v:Value} {f:Mk.Fo} {xs:List Value} (h:OwnF w B K v f xs) (hs:w.heap.size≤w'.heap.size) (hk:∀ b,b < w.heap.size→(K b∨v.ownBlock=some b)→w'.heap[b]? = w.heap[b]?):OwnF w' B K v f xs:=by
 refine⟨⟨h.own.1,h.own.2.imp id ?_⟩,h.cells.frame fun b hb=>⟨hb,hk b (h.le b hb) (.inl hb)⟩,h.ne,fun b hb=>Nat.lt_of_lt_of_le (h.le b hb) hs⟩;rintro ⟨g,cap,cur,h1,h2,h3,h4⟩;have e:v.ownBlock=some g:=by rw[h1];rfl
 exact⟨g,cap,cur,h1,h2,(hk g (h.own.lt g e).2 (.inr e)).trans h3,h4⟩
theorem OwnF.foV {w:World} {B:Nat} {K K':Nat→Prop} {v:Value} {f:Mk.Fo} {xs:List Value} (h:OwnF w B K v f xs) (hK:∀ b,K b→K' b) (ho:∀ g,v.ownBlock=some g→K' g):FoV w K' v f:=by
 obtain⟨ao,cap,h1,h2,h3,h4⟩:=z19.of_own h.own ho;exact⟨ao,cap,xs,h1,h2,h.cells.frame fun b hb=>⟨hK b hb,rfl⟩,h4⟩
end Go.Proofs.YtjonkbdldebkiaaGreatDoor
namespace Go.Proofs.YtjonkbdldebkiaaGreatDoor
open Go.Proofs.Tryz Go.RowKit
def KT (w:World) (B:Nat) (b:Nat):Prop:=B≤b∧∃ cs f,w.heap[b]? = some (.cells cs 56 f)
theorem KT.lt {w:World} {B b:Nat} (h:KT w B b):b < w.heap.size:=by
 obtain⟨_,cs,f,h⟩:=h
 rcases Nat.lt_or_ge b w.heap.size with h' | h'
 ·exact h'
 ·rw[Array.getElem?_eq_none h'] at h;cases h
theorem KT.ne {w:World} {B b g:Nat} {T:TypeId} {cs:Array Value} (h:KT w B b) (hg:∃ f,w.heap[g]? = some (.cells cs T f)) (hT:56 ≠ T):b ≠ g:=by
 rintro rfl;obtain⟨_,cs',f',h⟩:=h;obtain⟨f,hg⟩:=hg;rw[hg] at h;injection h with h;injection h with h1 h2 h3;exact hT h2.symm
theorem KT.keep {w w':World} {B b:Nat} (h:KT w B b) (hb:w'.heap[b]? = w.heap[b]?):KT w' B b∧w'.heap[b]? = w.heap[b]?:=⟨⟨h.1,by rw[hb];exact h.2⟩,hb⟩
theorem z0f {S:Nat→Prop} {w w':World} {B size n:Nat} {e:TypeId} {v:Value} {xs:List Value} (h:w.ownsRow B e size v n xs) (ha:Ap S w w') (hS:∀ g,v.ownBlock=some g→¬ S g):w'.ownsRow B e size v n xs:=by
 refine⟨h.1,h.2.imp id ?_⟩;rintro ⟨g,cap,cur,h1,h2,h3,h4⟩;have hlt:g < w.heap.size:=by
  rcases Nat.lt_or_ge g w.heap.size with h' | h'
  ·exact h'
  ·rw[Array.getElem?_eq_none h'] at h3;cases h3
 exact⟨g,cap,cur,h1,h2,(ha.block g hlt (hS g (by rw[h1];rfl))).trans h3,h4⟩
structure RdO (w:World) (B R:Nat) (s:ByteArray) (k:Nat) (tx:List UInt8) (ts:List Mk.Tok) (ov:Value) (xs:List Value):Prop where
 hB:4 < B
 hBR:B≤R
 rd:Rd w R s k tx ov
 own:w.ownsRow B 181 4 ov ts.length xs
 cells:z0y w (KT w B) ts xs
 ne:ov.ownBlock ≠ some R
def RdS (w:World) (B R:Nat) (s:ByteArray) (k:Nat) (tx:List UInt8) (ts:List Mk.Tok):Prop:=∃ ov xs,RdO w B R s k tx ts ov xs
section
variable {w w' : World} {B R : Nat} {s : ByteArray} {k : Nat} {tx : List UInt8} {ts : List Mk.Tok} {ov : Value} {xs : List Value}
theorem RdO.next (h:RdO w B R s k tx ts ov xs) {j:Nat} {ty:List UInt8} (ha:Ap (fun b=>b=R) w w') (hr:Rd w' R s j ty ov):RdO w' B R s j ty ts ov xs :=
 ⟨h.hB,h.hBR,hr,z0f h.own ha (fun g hg e=>h.ne (by rw[hg,show g=R from e])),h.cells.frame fun b hb=>hb.keep (ha.block b hb.lt (fun e=>hb.ne ⟨_,h.rd⟩ (by decide) e)),h.ne⟩
theorem RdO.rlt (h:RdO w B R s k tx ts ov xs):R < w.heap.size:=Blk.lt h.rd
theorem RdO.below (h:RdO w B R s k tx ts ov xs) (hb:Below w.heap.size w w'):RdO w' B R s k tx ts ov xs :=
 h.next (Ap.of_below hb) (h.rd.ap_far (Ap.of_below (S:=fun _=>False) hb) (fun q=>q))
theorem RdO.setText (h:RdO w B R s k tx ts ov xs) (ty:List UInt8):RdO (w.setCell ⟨R,2,none⟩ (.string (st ty))) B R s k ty ts ov xs :=
 h.next ((Ap.refl (fun b=>b=R) w).setCell (p:=⟨R,2,none⟩) rfl _) (Blk.set_ h.rd 2 _)
theorem RdO.setAt (h:RdO w B R s k tx ts ov xs) (j:Nat):RdO (w.setCell ⟨R,1,none⟩ (.int .i64 j)) B R s j tx ts ov xs :=
 h.next ((Ap.refl (fun b=>b=R) w).setCell (p:=⟨R,1,none⟩) rfl _) (h.rd.at_ j)
theorem RdO.blt (h:RdO w B R s k tx ts ov xs):B≤w.heap.size:=Nat.le_trans h.hBR (Nat.le_of_lt h.rlt)
def j0d (t:Mk.Tok) (va:Value):List Value:=[.int .i64 t.kind,.string (st t.name),va,.string (st t.text)]
theorem RdO.push (h:RdO w B R s k tx ts ov xs) {t:Mk.Tok} {va:Value} (ha:AtsV w (KT w B) va t.ats) {w1 w2:World} {v':Value} (h1:Below w.heap.size w w1) (hown:w2.ownsRow B 181 4 v' (ts.length + 1) (xs++j0d t va)) (hg:w1.grownBy w2 ov.ownBlock) (hf:v'.ownBlock=ov.ownBlock∨v'.ownBlock=some w1.heap.size) :
  RdS (w2.setCell ⟨R,3,none⟩ v') B R s k tx (ts++[t])∧Below B w (w2.setCell ⟨R,3,none⟩ v')∧Ap (fun b=>b=R∨ov.ownBlock=some b) w (w2.setCell ⟨R,3,none⟩ v'):=by
 have hlt:=h.rlt;have hl1:R < w1.heap.size:=Nat.lt_of_lt_of_le hlt h1.size;have hne:v'.ownBlock ≠ some R:=by
  rcases hf with e | e
  ·rw[e];exact h.ne
  ·rw[e];intro q;injection q with q;omega
 have hkeep:∀ b,KT w B b→KT (w2.setCell ⟨R,3,none⟩ v') B b∧(w2.setCell ⟨R,3,none⟩ v').heap[b]? = w.heap[b]?:=by
  intro b hb;refine hb.keep ?_;rw[Below.heap_setCell w2 ⟨R,3,none⟩ v' b (fun e=>hb.ne ⟨_,h.rd⟩ (by decide) e)];rw[hg.block b (Nat.lt_of_lt_of_le hb.lt h1.size) ?_]
  ·exact h1.block b hb.lt
  ·intro e
   rcases h.own.2 with ⟨hv,_⟩ | ⟨g,cap,cur,hv,_,hh,_⟩
   ·rw[hv] at e;cases e
   ·rw[hv] at e
    injection e with e;exact hb.ne ⟨_,hh⟩ (by decide) e
 refine⟨⟨v',xs++j0d t va,h.hB,h.hBR,?_,?_,?_,hne⟩,?_⟩
 ·have hr:Rd w2 R s k tx ov:=(hg.block R hl1 (fun e=>h.ne e.symm)).trans ((h1.block R hlt).trans h.rd)
  exact Blk.set_ hr 3 v'
 ·rw[List.length_append]
  exact ownsRow_setCell_other hown (a:=⟨R,3,none⟩) hne v'
 ·exact(h.cells.frame hkeep).snoc (ha.frame hkeep)
 ·refine⟨Below.setCell ?_ (p:=⟨R,3,none⟩) h.hBR v',?_⟩
  ·exact(h1.mono h.blt).grown hg (Nat.le_trans h.blt h1.size) (fun k hk=>(h.own.lt k hk).1)
  ·refine((Ap.of_below h1).grown hg (fun k _ e=>.inr e)).setCell (p:=⟨R,3,none⟩) (.inl rfl) v'
end
theorem Z9 {w:World} {B size n:Nat} {e:TypeId} {v:Value} {xs:List Value} (h:w.ownsRow B e size v n xs):∃ ao cap,v=.slice ao n cap:=by
 rcases h.2 with ⟨hv,hn⟩ | ⟨g,cap,cur,hv,_⟩
 ·exact⟨none,0,by rw[hv,hn]⟩
 ·exact⟨_,_,hv⟩
theorem Tryz.infoTok:(prog.info? 181).map (fun i=>(i.zero,i.size,i.bytes))=some (some (.agg #[.int .i64 0,.string ⟨#[]⟩,.slice none 0 0,.string ⟨#[]⟩]),4,64):=by kernel_rfl

theorem q52 {w:World} {B R:Nat} {s:ByteArray} {k:Nat} {tx:List UInt8} {ts:List Mk.Tok} (hg:Gl w) {ov:Value} {xs:List Value} (h:RdO w B R s k tx ts ov xs) (htx:tx.length≤1048576) (hts:ts.length≤1048576) :
  Calls prog 127 #[.pointer (some ⟨R,0,none⟩)] w fun e w'=>e=.returned (.tuple #[])∧RdS w' B R s k [] (Mk.flush tx ts)∧Below B w w'∧Ap (fun b=>b=R∨ov.ownBlock=some b) w w':=by
 have c2:=h.rd.c2;have ht:=q0v (st tx) w (by rw[Z4];exact htx) hg;rw[z1o] at ht;have HT:=Ld ht;have H:=Ld h;clear ht h;go_enter func127,ntmps127;go_wp2_with fail;refine HT.out.mono ?_;rintro e w1 ⟨rfl,hb1⟩;have H1:=Ld (H.out.below hb1);have L1:=Ld (hb1.mono H.out.blt);have A1:=Ld (Ap.of_below (S:=fun b=>b=R∨ov.ownBlock=some b) hb1);have HF:Hid (Mk.flush tx ts=if (Mk.take tx).1=[] then ts else ts++[⟨1,[],[],(Mk.take tx).1⟩]):=by show _=_;rfl
 clear HT hb1 H c2;generalize (Mk.take tx).2=bb;generalize (Mk.take tx).1=t at HF ⊢;have hst:(st t).toList=t:=Lib.toList_data _;have f2:=H1.out.rd.fz 2;have f3:=H1.out.rd.fz 3;have c2:=H1.out.rd.c2;have c3:=H1.out.rd.c3
 by_cases h0:t=[]
 ·subst h0
  rw[if_pos rfl] at HF;have hst:(st []).toList=[]:=Lib.toList_data _;go_wp2_with fail;go_end0;exact⟨rfl,by rw[HF.out];exact⟨_,_,H1.out.setText []⟩,L1.out.setCell (p:=⟨R,2,none⟩) H1.out.hBR _,A1.out.setCell (p:=⟨R,2,none⟩) (.inl rfl) _⟩
 ·rw[if_neg h0] at HF
  have he:t.isEmpty=false:=by
   cases t with
   | nil=>exact absurd rfl h0
   | cons _ _=>rfl
  obtain⟨i0,hi,hz0,hz1,hz2⟩:=info_parts Tryz.infoTok;have hbl:=H1.out.blt;have ow10:=z0f H1.out.own ((Ap.refl (fun _=>False) w1).alloc (.cells #[.int .i64 1,.string ⟨#[]⟩,.slice none 0 0,.string (st t)] 181)) (fun _ _ q=>q);have hb11:Below w1.heap.size w1 (w1.alloc (.cells #[.int .i64 1,.string ⟨#[]⟩,.slice none 0 0,.string (st t)] 181)):=(Below.refl _ w1).alloc (Lr) _;go_wp2_with (at_builtin;refine J3 rfl _ _ 63 rfl B 181 i0 (.agg #[.int .i64 0,.string ⟨#[]⟩,.slice none 0 0,.string ⟨#[]⟩]) 4 64 underlying63 hi hz0 hz1 hz2 rfl (by decide) _ _ _ rfl ow10 ⟨w1.heap.size,0,none⟩ 1 1 [.int .i64 1,.string ⟨#[]⟩,.slice none 0 0,.string (st t)] rfl rfl (z0h _ _ _) (by intro u hu;simp at hu;rcases hu with rfl | rfl | rfl | rfl <;> rfl) (by decide) (by unfold maxLen;omega) (by omega) (by simp;omega) ?_);intro v' w2 hown' hgrow hfresh;obtain⟨r1,r2,r3⟩:=H1.out.push (t:=⟨1,[],[],t⟩) (va:=.slice none 0 0) (AtsV.nil _ _) hb11 hown' hgrow (hfresh.imp id (fun e=>by rw[e];simp));have R1:=Ld r1;have R2:=Ld r2;have R3:=Ld r3;have f3':w2.frozen? ⟨R,3,none⟩=false:=by
   obtain⟨_,_,r⟩:=r1;have:=r.rd.fz 3
   rwa [World.frozen?_setCell] at this
  have c3':w2.cell? ⟨R,3,none⟩=some ov:=by
   have hR:Rd w2 R s k tx ov:=(hgrow.block R (Nat.lt_of_lt_of_le H1.out.rlt hb11.size) (fun e=>H1.out.ne e.symm)).trans ((hb11.block R H1.out.rlt).trans H1.out.rd);exact hR.c3
  have f2':(w2.setCell ⟨R,3,none⟩ v').frozen? ⟨R,2,none⟩=false:=by
   obtain⟨_,_,r⟩:=r1;exact r.rd.fz 2
  have c2':(w2.setCell ⟨R,3,none⟩ v').cell? ⟨R,2,none⟩=some (.string (st tx)):=by
   obtain⟨_,_,r⟩:=r1;exact r.rd.c2
  obtain⟨ao,cap,rfl⟩:=Z9 hown';clear hown' hgrow hfresh r1 r2 r3 ow10 hb11 f2 f3 c2 c3;go_wp2_with fail;go_end0;refine⟨rfl,?_,(L1.out.trans R2.out).setCell (p:=⟨R,2,none⟩) H1.out.hBR _,(A1.out.trans R3.out).setCell (p:=⟨R,2,none⟩) (.inl rfl) _⟩;rw[HF.out];obtain⟨ov2,xs2,r⟩:=R1.out;exact⟨_,_,r.setText []⟩

def Keeps (w w':World):Prop:=∀ (b:Nat) (cs:Array Value) (f:Nat × Nat),w.heap[b]? = some (Obj.cells cs 4 f)→w'.heap[b]? = some (Obj.cells cs 4 f)
structure Fr (B:Nat) (w w':World):Prop where
 below:Below B w w'
 keeps:Keeps w w'
theorem Fr.refl (B:Nat) (w:World):Fr B w w:=⟨Below.refl B w,fun _ _ _ h=>h⟩
theorem Fr.trans {B:Nat} {a b c:World} (h:Fr B a b) (k:Fr B b c):Fr B a c:=⟨h.below.trans k.below,fun i cs f q=>k.keeps i cs f (h.keeps i cs f q)⟩
theorem Fr.drewN {B:Nat} {a b:World} (h:Fr B a b) (n:Nat):Fr B a (b.drewN n):=⟨below_drewN h.below n,h.keeps⟩
theorem Fr.drew {B:Nat} {a b:World} (h:Fr B a b):Fr B a b.drew:=⟨h.below.drew,h.keeps⟩
theorem lt_of_heap {w:World} {b:Nat} {o:Obj} (h:w.heap[b]? = some o):b < w.heap.size:=by
 rcases Nat.lt_or_ge b w.heap.size with h' | h'
 ·exact h'
 ·rw[Array.getElem?_eq_none h'] at h;cases h
theorem z2j {w:World} {b g:Nat} {cs cs':Array Value} {f f':Nat × Nat} {T T':TypeId} (h:w.heap[b]? = some (.cells cs T f)) (hg:w.heap[g]? = some (.cells cs' T' f')) (hT:T ≠ T'):b ≠ g:=by
 rintro rfl;rw[hg] at h;injection h with h;injection h with h1 h2 h3;exact hT h2.symm
section
variable {w w' : World} {B R : Nat} {s : ByteArray} {k : Nat} {tx : List UInt8} {ts : List Mk.Tok} {ov : Value} {xs : List Value}
theorem Fr.of_below (h:RdO w B R s k tx ts ov xs) (hb:Below w.heap.size w w'):Fr B w w':=⟨hb.mono h.blt,fun b _ _ q=>(hb.block b (lt_of_heap q)).trans q⟩
theorem Fr.of_ap (h:RdO w B R s k tx ts ov xs) (ha:Ap (fun b=>b=R) w w'):Fr B w w' :=
 ⟨ha.below h.blt (fun k hk e=>by have e:k=R:=e;have:=h.hBR;omega),fun b _ _ q=>(ha.block b (lt_of_heap q) (fun e=>z2j q h.rd (by decide) e)).trans q⟩
theorem Fr.of_push (h:RdO w B R s k tx ts ov xs) (hb:Below B w w') (ha:Ap (fun b=>b=R∨ov.ownBlock=some b) w w'):Fr B w w':=by
 refine⟨hb,fun b _ _ q=>(ha.block b (lt_of_heap q) ?_).trans q⟩;rintro (e | e)
 ·exact z2j q h.rd (by decide) e
 ·rcases h.own.2 with ⟨hv,_⟩ | ⟨g,cap,cur,hv,_,hh,_⟩
  ·rw[hv] at e;cases e
  ·rw[hv] at e
   injection e with e;exact z2j q hh (by decide) e.symm
theorem Fr.tok {P:Nat} {cs:Array Value} (hP:Blk w P 181 cs) (hB:B≤P) (i:Nat) (v:Value):Fr B w (w.setCell ⟨P,i,none⟩ v) :=
 ⟨(Below.refl B w).setCell (p:=⟨P,i,none⟩) hB v,fun b _ _ q=>(Below.heap_setCell w ⟨P,i,none⟩ v b (fun e=>z2j q hP (by decide) e)).trans q⟩
theorem Fr.own (h:RdO w B R s k tx ts ov xs) (i:Nat) (v:Value):Fr B w (w.setCell ⟨R,i,none⟩ v):=Fr.of_ap h ((Ap.refl (fun b=>b=R) w).setCell (p:=⟨R,i,none⟩) rfl v)
end
end Go.Proofs.YtjonkbdldebkiaaGreatDoor
