/- Contracts of the program's padded and Print: a time as it is written. Condition: the library's table of powers is as it was laid. -/
import Derived.Test.YtjonkbdldebkiaaGreatDoorYWdPad
import Derived.Test.YtjonkbdldebkiaaGreatDoorYMkTok2
import Derived.Lib.AppendIntMem
import Derived.Deep.LoopGhost
import Derived.Test.YtjonkbdldebkiaaGreatDoorYUrlD
import Derived.Test.YtjonkbdldebkiaaGreatDoorYMkStay3
import Derived.Test.YtjonkbdldebkiaaGreatDoorYMkTree2
set_option linter.unusedVariables false
set_option linter.unusedSimpArgs false
set_option maxHeartbeats 2000000
set_option maxRecDepth 100000
namespace Go.Proofs.YtjonkbdldebkiaaGreatDoor
open Go.RowKit
def Pow (w : World) : Prop := Lib.TabIs Tryz.prog w "internal/strconv.uint64pow10" .u64 Lib.pow10Tab
end Go.Proofs.YtjonkbdldebkiaaGreatDoor
namespace Fd
end Fd
namespace Go.Proofs.YtjonkbdldebkiaaGreatDoor
open Go.RowKit
theorem Pow.below {w w':World} (h:Pow w) (hb:Below w.heap.size w w'):Pow w':=by
 unfold Pow Lib.TabIs World.var? at *
 cases hg : Tryz.prog.globalNamed "internal/strconv.uint64pow10" with
 | none=>rw[hg] at h;cases h
 | some g =>
  rw[hg] at h;simp only [Option.bind_some] at h ⊢
  cases hh:w.heap[g]? with
  | none=>rw[hh] at h;cases h
  | some o=>rw[hb.block g (Array.getElem?_eq_some_iff.1 hh).1,hh];rw[hh] at h;exact h
theorem y0c (l:List UInt8) (c:UInt8) (X cap:Nat) (w:World) (hl:l.length≤1000) (hcl:∀ j (h:j < l.length),w.cell? ⟨X,j,none⟩=some (.int .u8 l[j].toNat)) :
  Calls Tryz.prog 220 #[.slice (some ⟨X,0,none⟩) l.length cap,.int .u8 c.toNat] w fun e w'=>∃ i:Int,e=.returned (.int .i64 i)∧decide (0≤i)=l.contains c∧w'=w:=by
 have HCL:=Lib.hid hcl;clear hcl;go_enter Tryz.func220,Tryz.ntmps220;go_wp2_with fail
 go_loopw [8] (fun i wr=>∃ k:Nat,k≤l.length∧i=.int .i64 k∧Hid (c ∉ l.take k)∧Hid (w=wr)) (fun i _=>l.length - (intOf i).toNat)
 case atStart=>exact⟨0,Nat.zero_le _,rfl,by show _ ∉ _;simp,by first | exact rfl | exact trivial⟩
 case round =>
  obtain⟨k,hk,rfl,HN,HW⟩:=hrel;have hw:=HW.out;clear HW;subst hw
  by_cases hlt:k < l.length
  ·have c0:=HCL.out k hlt
   have HT:Hid (l.take (k + 1)=l.take k++[l[k]]):=List.take_succ_eq_append_getElem hlt;have HM:Hid (l[k] ∈ l):=List.getElem_mem hlt;obtain⟨x,hx⟩:∃ x,l[k]=x:=⟨_,rfl⟩;rw[hx] at c0 HT HM;clear hx
   by_cases h:c=x
   ·have HC:Hid (l.contains c=true):=by show _=_;rw[List.contains_iff_mem];rw[h];exact HM.out
    have e1:((c.toNat:Int) == (x.toNat:Int))=true:=by rw[h];simp
    clear h;go_wp2_with fail;go_ret;exact⟨_,rfl,by rw[HC.out];exact decide_eq_true (by omega),rfl⟩
   ·have HN2:Hid (c ∉ l.take (k + 1)):=by
     show _ ∉ _;rw[HT.out];intro q
     rcases List.mem_append.1 q with q | q
     ·exact HN.out q
     ·exact h (by simpa using q)
    have e1:((c.toNat:Int) == (x.toNat:Int))=false:=by
     rw[beq_eq_false_iff_ne];intro q;exact h (UInt8.toNat_inj.1 (by omega))
    clear h;go_wp2_with fail;go_roundw
    case rel=>exact⟨k + 1,by omega,by go_num,HN2,by first | exact rfl | exact trivial⟩
    case measure=>simp[intOf];omega
  ·have hke:k=l.length:=by omega
   have HC:Hid (l.contains c=false):=by
    show _=_;have:=HN.out;rw[hke,List.take_length] at this;rw[Bool.eq_false_iff];intro q;exact this (List.contains_iff_mem.1 q)
   clear hke;go_wp2_with fail;go_ret;exact⟨-1,rfl,by rw[HC.out];rfl,rfl⟩
theorem q8o (l:List UInt8) (c:UInt8) (X cap:Nat) (w:World) (hl:l.length≤1000) (hcl:∀ j (h:j < l.length),w.cell? ⟨X,j,none⟩=some (.int .u8 l[j].toNat)) :
  Calls Tryz.prog 169 #[.slice (some ⟨X,0,none⟩) l.length cap,.int .u8 c.toNat] w fun e w'=>e=.returned (.bool (l.contains c))∧w'=w:=by
 have HI:=Lib.hid (y0c l c X cap w hl hcl);clear hcl;go_enter Tryz.func169,Tryz.ntmps169;go_wp2_with fail;refine HI.out.mono ?_;rintro e w1 ⟨i,rfl,hi,hw⟩;subst w1;have HC:=Lib.hid hi;clear hi HI;go_wp2_with fail;go_ret;exact⟨Z7 HC.out,rfl⟩
def DrS (w:World) (R:Nat) (r:Fd.Dr):Prop:=Blk w R 160 #[.string (st r.s),.bool r.short]
theorem z1m (of:List UInt8) (r:Fd.Dr) (R:Nat) (w:World) (h:DrS w R r) (hof:of.length≤1000) :
  Calls Tryz.prog 104 #[.pointer (some ⟨R,0,none⟩),.string (st of)] w fun e w'=>e=.returned (.int .u8 (Fd.Y6 of r).1.toNat)∧DrS w' R (Fd.Y6 of r).2∧Ap (fun b=>b=R) w w':=by
 have hst:∀ l:List UInt8,(st l).toList=l:=fun l=>Lib.toList_data _
 obtain⟨s,sh⟩:=r;have RB:=Lib.hid h;have hRl:=Blk.lt h;have c0:w.cell? ⟨R,0,none⟩=some (.string (st s)):=Blk.cell h 0;have c1:w.cell? ⟨R,1,none⟩=some (.bool sh):=Blk.cell h 1;have f0:=Blk.frozen h 0;have f1:=Blk.frozen h 1;clear h
 cases s with
 | nil =>
  go_enter Tryz.func104,Tryz.ntmps104;go_wp2_with fail;go_ret;exact⟨rfl,Blk.set_ (Blk.set_ RB.out 0 _) 1 _,((Ap.refl (fun b=>b=R) w).setCell (p:=⟨R,0,none⟩) rfl _).setCell (p:=⟨R,1,none⟩) rfl _⟩
 | cons c t =>
  have hcv:=Lib.run_convert_string_bytes (P:=Tryz.prog) w 9 94 5 (st of) (u:=.string) Tryz.underlying9 Tryz.underlying94 Tryz.underlying5;have hcl:=fun j hj=>Lib.bytesWorld_cell w 5 (st of) j hj
  have hbw:Below w.heap.size w (Lib.bytesWorld w 5 (st of)):=⟨rfl,rfl,rfl,by rw[Lib.bytesWorld_size];omega,fun k hk=>Lib.bytesWorld_at_old w _ (st of) k hk⟩;generalize Lib.bytesWorld w 5 (st of)=wv at hcv hcl hbw;rw[y9] at hcv;have HCL:Hid (∀ j (h:j < of.length),wv.cell? ⟨w.heap.size,j,none⟩=some (.int .u8 of[j].toNat)):=by
   intro j hj;rw[hcl j (by rw[y9];exact hj)];simp[st,List.getD_eq_getElem?_getD,List.getElem?_eq_getElem hj]
  have d0:wv.cell? ⟨R,0,none⟩=some (.string (st (c :: t))):=(hbw.cell (p:=⟨R,0,none⟩) hRl).trans c0;have d1:wv.cell? ⟨R,1,none⟩=some (.bool sh):=(hbw.cell (p:=⟨R,1,none⟩) hRl).trans c1;have HBW:=Lib.hid hbw;clear hcl hbw;have hS0:0 < (st (c :: t)).size:=by rw[y9];simp
  have hget:∀ q:0 < (st (c :: t)).size,(st (c :: t))[0]'q=c:=fun _=>rfl
  have hext:(st (c :: t)).extract 1 (st (c :: t)).size=st t:=by rw[Z9,y9];simp[st]
  have HCN:=Lib.hid (q8o of c w.heap.size (grownCap w of.length 0 5) wv hof HCL.out);have e0:wv.frozen? ⟨R,0,none⟩=false:=(HBW.out.frozen (p:=⟨R,0,none⟩) hRl).trans f0;have e1:wv.frozen? ⟨R,1,none⟩=false:=(HBW.out.frozen (p:=⟨R,1,none⟩) hRl).trans f1;have RB2:=Lib.hid (Blk.below RB.out HBW.out hRl);have AP2:Hid (Ap (fun b=>b=R) w wv):=Ap.of_below HBW.out;clear HCL;have HSD:Hid (Fd.Y6 of ⟨c :: t,sh⟩=if of.contains c then (c,⟨t,sh⟩) else (0,⟨[],true⟩)):=rfl;go_enter Tryz.func104,Tryz.ntmps104;go_wp2_with fail;refine HCN.out.mono ?_;rintro e w1 ⟨rfl,hw1⟩;subst w1;clear HCN hcv;obtain⟨b,hb⟩:∃ b,of.contains c=b:=⟨_,rfl⟩;have HBB:=Lib.hid hb;rw[hb];clear hb
  cases b with
  | true =>
   have HE:Hid (Fd.Y6 of ⟨c :: t,sh⟩=(c,⟨t,sh⟩)):=by show _=_;rw[HSD.out,HBB.out,if_pos rfl]
   go_wp2_with fail;go_ret;exact⟨by rw[HE.out];rfl,by rw[HE.out];exact Blk.set_ RB2.out 0 _,AP2.out.setCell (p:=⟨R,0,none⟩) rfl _⟩
  | false =>
   have HE:Hid (Fd.Y6 of ⟨c :: t,sh⟩=(0,⟨[],true⟩)):=by show _=_;rw[HSD.out,HBB.out,if_neg (by decide)]
   go_wp2_with fail;go_ret;exact⟨by rw[HE.out];rfl,by rw[HE.out];exact Blk.set_ (Blk.set_ RB2.out 0 _) 1 _,(AP2.out.setCell (p:=⟨R,0,none⟩) rfl _).setCell (p:=⟨R,1,none⟩) rfl _⟩
end Go.Proofs.YtjonkbdldebkiaaGreatDoor
namespace Fd
theorem ten_mem {c:UInt8} (h:tenD.contains c=true):48≤c.toNat∧c.toNat≤57:=by
 rw[List.contains_iff_mem] at h;simp only [tenD,List.mem_cons,List.not_mem_nil,or_false] at h
 rcases h with rfl | rfl | rfl | rfl | rfl | rfl | rfl | rfl | rfl | rfl <;> decide
theorem j7y (r:Dr):0≤max 0 ((((Y6 tenD r).1.toNat:Nat):Int) - 48)∧max 0 ((((Y6 tenD r).1.toNat:Nat):Int) - 48)≤9:=by
 obtain⟨s,sh⟩:=r
 cases s with
 | nil=>exact⟨by show (0:Int)≤max 0 (0 - 48);decide,by show max (0:Int) (0 - 48)≤9;decide⟩
 | cons c t =>
  show 0≤max 0 ((((if tenD.contains c then (c,(⟨t,sh⟩:Dr)) else (0,⟨[],true⟩)).1.toNat:Nat):Int) - 48)∧max 0 ((((if tenD.contains c then (c,(⟨t,sh⟩:Dr)) else (0,⟨[],true⟩)).1.toNat:Nat):Int) - 48)≤9
  split
  ·rename_i h
   have:=ten_mem h;show 0≤max 0 (((c.toNat:Nat):Int) - 48)∧max 0 (((c.toNat:Nat):Int) - 48)≤9;constructor <;> omega
  ·exact⟨by decide,by decide⟩
end Fd
namespace Go.Proofs.YtjonkbdldebkiaaGreatDoor
open Go.RowKit
theorem z1b (many:Nat) (most:Int) (r:Fd.Dr) (R:Nat) (w:World) (h:DrS w R r) (hm:many≤4) :
  Calls Tryz.prog 103 #[.pointer (some ⟨R,0,none⟩),.int .i64 many,.int .i64 most] w fun e w'=>e=.returned (.int .i64 (Fd.Z8 many most r).1)∧DrS w' R (Fd.Z8 many most r).2∧Ap (fun b=>b=R) w w'∧0≤(Fd.Z8 many most r).1∧(Fd.Z8 many most r).1≤99999:=by
 have HR:=Lib.hid h;have HDD:Hid (Fd.Z8 many most r=((Fd.digD many 0 r).1,⟨(Fd.digD many 0 r).2.s,(Fd.digD many 0 r).2.short || decide (most < (Fd.digD many 0 r).1)⟩)):=rfl;generalize Fd.Z8 many most r=out at HDD ⊢;clear h;go_enter Tryz.func103,Tryz.ntmps103;go_wp2_with fail
 go_loopw [7,9] (fun n i wr=>∃ (k:Nat) (nn:Int) (rr:Fd.Dr),k≤many∧i=.int .i64 k∧n=.int .i64 nn∧0≤nn∧nn≤99999∧Hid (nn≤10 ^ k - 1)∧Hid (Fd.digD many 0 r=Fd.digD (many - k) nn rr)∧Hid (DrS wr R rr)∧Hid (Ap (fun b=>b=R) w wr)) (fun _ i _=>many - (intOf i).toNat)
 case atStart=>exact⟨0,0,r,Nat.zero_le _,rfl,rfl,by omega,by omega,by show _≤_;simp,rfl,HR,Ap.refl _ _⟩
 case round =>
  clear HR;obtain⟨k,nn,rr,hk,rfl,rfl,h1,h2,HB,HD,DR,AP⟩:=hrel
  by_cases hlt:k < many
  ·have HS:=Lib.hid (z1m Fd.tenD rr R wr DR.out (by decide))
   have HNX:Hid (Fd.digD (many - k) nn rr=Fd.digD (many - (k + 1)) (10 * nn + max 0 ((((Fd.Y6 Fd.tenD rr).1.toNat:Nat):Int) - 48)) (Fd.Y6 Fd.tenD rr).2):=by
    show _=_;rw[show many - k=(many - (k + 1)) + 1 by omega];rfl
   obtain⟨g1,g2⟩:=Fd.j7y rr;generalize Fd.Y6 Fd.tenD rr=sg at HS HNX g1 g2;obtain⟨c,r2⟩:=sg;simp only at HS HNX g1 g2;have hcl:=c.toNat_lt;go_wp2_with fail;refine HS.out.mono ?_;rintro e w1 ⟨rfl,hd1,ha1⟩;have DR1:=Lib.hid hd1;have AP1:=Lib.hid (AP.out.trans ha1);clear hd1 ha1 HS;go_wp2_with fail;have hpw:nn≤10 ^ k - 1:=HB.out;have hps:(10:Int) ^ (k + 1)=10 * 10 ^ k:=by rw[Int.pow_succ];omega
   have HB2:Hid (10 * nn + max 0 (((c.toNat:Nat):Int) - 48)≤10 ^ (k + 1) - 1):=by show _≤_;omega
   have h9:10 * nn + max 0 (((c.toNat:Nat):Int) - 48)≤99999:=by
    have hk3:k=0∨k=1∨k=2∨k=3:=by omega
    rcases hk3 with rfl | rfl | rfl | rfl <;> simp at hpw <;> omega
   have h8:0≤10 * nn + max 0 (((c.toNat:Nat):Int) - 48):=by omega
   clear hpw hps;go_roundw
   case rel=>exact⟨k + 1,_,r2,by omega,by go_num,rfl,h8,h9,HB2,by show _=_;rw[HD.out,HNX.out],DR1,AP1⟩
   case measure=>simp[intOf];omega
  ·have hke:k=many:=by omega
   have HE:Hid (out=(nn,⟨rr.s,rr.short || decide (most < nn)⟩)):=by
    show _=_;have h:=HD.out;rw[hke,Nat.sub_self] at h;rw[HDD.out,h];rfl
   obtain⟨s,sh⟩:=rr;simp only at HE;have c1:wr.cell? ⟨R,1,none⟩=some (.bool sh):=Blk.cell DR.out 1;have f1:wr.frozen? ⟨R,1,none⟩=false:=Blk.frozen DR.out 1;clear hke HD HDD
   cases sh with
   | true =>
    go_wp2_with fail;go_ret;exact⟨by rw[HE.out];rfl,by rw[HE.out];exact Blk.set_ DR.out 1 _,AP.out.setCell (p:=⟨R,1,none⟩) rfl _,by rw[HE.out];exact h1,by rw[HE.out];exact h2⟩
   | false =>
    go_wp2_with fail;go_ret;exact⟨by rw[HE.out];rfl,by rw[HE.out];exact Blk.set_ DR.out 1 _,AP.out.setCell (p:=⟨R,1,none⟩) rfl _,by rw[HE.out];exact h1,by rw[HE.out];exact h2⟩
theorem j1l (r:Fd.Dr) (R:Nat) (w:World) (h:DrS w R r) :
  Calls Tryz.prog 105 #[.pointer (some ⟨R,0,none⟩)] w fun e w'=>e=.returned (.int .i64 (Fd.z4f r).1)∧DrS w' R (Fd.z4f r).2∧Ap (fun b=>b=R) w w'∧0≤(Fd.z4f r).1∧(Fd.z4f r).1≤400000000:=by
 have HH:=Lib.hid (fun (W:World) (rr:Fd.Dr) (hW:DrS W R rr)=>z1b 2 23 rr R W hW (by decide));have HM:=Lib.hid (fun (W:World) (rr:Fd.Dr) (hW:DrS W R rr)=>z1b 2 59 rr R W hW (by decide));have HS:=Lib.hid (fun (W:World) (rr:Fd.Dr) (hW:DrS W R rr)=>z1m [58] rr R W hW (by decide));have HC:Hid (Fd.z4f r=(3600 * (Fd.Z8 2 23 r).1 + 60 * (Fd.Z8 2 59 (Fd.Y6 [58] (Fd.Z8 2 23 r).2).2).1 + (Fd.Z8 2 59 (Fd.Y6 [58] (Fd.Z8 2 59 (Fd.Y6 [58] (Fd.Z8 2 23 r).2).2).2).2).1,(Fd.Z8 2 59 (Fd.Y6 [58] (Fd.Z8 2 59 (Fd.Y6 [58] (Fd.Z8 2 23 r).2).2).2).2).2)):=rfl;have DR:=Lib.hid h;clear h;generalize Fd.z4f r=out at HC ⊢;go_enter Tryz.func105,Tryz.ntmps105;have K1:=Lib.hid (HH.out w r DR.out);generalize Fd.Z8 2 23 r=x1 at K1 HC;go_wp2_with fail;refine K1.out.mono ?_;rintro e w1 ⟨rfl,hd1,ha1,p1,p2⟩;have DR1:=Lib.hid hd1;have AP1:=Lib.hid ha1;clear hd1 ha1 K1;have K2:=Lib.hid (HS.out w1 _ DR1.out);generalize Fd.Y6 [58] x1.2=x2 at K2 HC;go_wp2_with fail;refine K2.out.mono ?_;rintro e w2 ⟨rfl,hd2,ha2⟩;have DR2:=Lib.hid hd2;have AP2:=Lib.hid (AP1.out.trans ha2);clear hd2 ha2 K2;have K3:=Lib.hid (HM.out w2 _ DR2.out);generalize Fd.Z8 2 59 x2.2=x3 at K3 HC;go_wp2_with fail;refine K3.out.mono ?_;rintro e w3 ⟨rfl,hd3,ha3,p3,p4⟩;have DR3:=Lib.hid hd3;have AP3:=Lib.hid (AP2.out.trans ha3);clear hd3 ha3 K3;have K4:=Lib.hid (HS.out w3 _ DR3.out);generalize Fd.Y6 [58] x3.2=x4 at K4 HC;go_wp2_with fail;refine K4.out.mono ?_;rintro e w4 ⟨rfl,hd4,ha4⟩;have DR4:=Lib.hid hd4;have AP4:=Lib.hid (AP3.out.trans ha4);clear hd4 ha4 K4;have K5:=Lib.hid (HM.out w4 _ DR4.out);generalize Fd.Z8 2 59 x4.2=x5 at K5 HC;obtain⟨a1,b1⟩:=x1;obtain⟨a3,b3⟩:=x3;obtain⟨a5,b5⟩:=x5;simp only at *;go_wp2_with fail;refine K5.out.mono ?_;rintro e w5 ⟨rfl,hd5,ha5,p5,p6⟩;have DR5:=Lib.hid hd5;have AP5:=Lib.hid (AP4.out.trans ha5);clear hd5 ha5 K5;go_wp2_with fail;go_ret;exact⟨by rw[HC.out];rfl,by rw[HC.out];exact DR5.out,AP5.out,by rw[HC.out];show 0≤3600 * a1 + 60 * a3 + a5;omega,by rw[HC.out];show 3600 * a1 + 60 * a3 + a5≤_;omega⟩
end Go.Proofs.YtjonkbdldebkiaaGreatDoor
namespace Mk
namespace Fo
def z6q:Fo→Bs
 | nil=>[]
 | node n _ _ _ nil=>n
 | node _ _ _ _ (node m b u j r)=>z6q (node m b u j r)
def lastT:Fo→Bs
 | nil=>[]
 | node _ _ t _ nil=>t
 | node _ _ _ _ (node m b u j r)=>lastT (node m b u j r)
def merges (f:Fo) (n:Bs):Bool:=decide (n=[]) && decide (f ≠ nil) && decide (z6q f=[])
theorem Y9 (f:Fo) (n:Bs):merges f n=true↔n=[]∧f ≠ nil∧z6q f=[]:=by
 unfold merges;rw[Bool.and_eq_true,Bool.and_eq_true,decide_eq_true_iff,decide_eq_true_iff,decide_eq_true_iff];exact and_assoc
theorem z6c (n n':Bs) (a':List At) (t':Bs) (k':Fo) (m:Bs) (b:List At) (u:Bs) (j r:Fo):merges (node n' a' t' k' (node m b u j r)) n=merges (node m b u j r) n:=by
 rw[Bool.eq_iff_iff,Y9,Y9];constructor
 ·rintro ⟨h1,_,h3⟩;exact⟨h1,(by intro e;cases e),h3⟩
 ·rintro ⟨h1,_,h3⟩;exact⟨h1,(by intro e;cases e),h3⟩
theorem z4z (n:Bs):merges nil n=false:=by
 rw[Bool.eq_false_iff];intro h;exact((Y9 _ _).1 h).2.1 rfl
theorem z8c:∀ (f:Fo) (n:Bs) (a:List At) (t:Bs) (k:Fo),merges f n=true→(snoc n a t k f).len=f.len
 | nil,n,a,t,k,h=>by rw[z4z] at h;cases h
 | node n' a' t' k' nil,n,a,t,k,h=>by
  have h1:n=[]∧n'=[]:=⟨((Y9 _ _).1 h).1,((Y9 _ _).1 h).2.2⟩;unfold snoc;rw[if_pos h1];rfl
 | node n' a' t' k' (node m b u j r),n,a,t,k,h=>by
  have:=z8c (node m b u j r) n a t k (by rwa [z6c] at h);show (snoc n a t k (node m b u j r)).len + 1=(node m b u j r).len + 1;rw[this]
theorem z6f:∀ (f:Fo) (n:Bs) (a:List At) (t:Bs) (k:Fo),merges f n=false→(snoc n a t k f).len=f.len + 1
 | nil,n,a,t,k,_=>rfl
 | node n' a' t' k' nil,n,a,t,k,h=>by
  have h1:¬ (n=[]∧n'=[]):=by
   rintro ⟨rfl,rfl⟩;rw[(Y9 _ _).2 ⟨rfl,(by intro e;cases e),rfl⟩] at h;cases h
  unfold snoc;rw[if_neg h1];rfl
 | node n' a' t' k' (node m b u j r),n,a,t,k,h=>by
  have:=z6f (node m b u j r) n a t k (by rwa [z6c] at h);show (snoc n a t k (node m b u j r)).len + 1=(node m b u j r).len + 1 + 1;rw[this]
theorem z5e:∀ (f:Fo) (n:Bs) (a:List At) (t:Bs) (k:Fo),bulk (snoc n a t k f)≤bulk f + (1 + n.length + t.length + atB a + bulk k)
 | nil,n,a,t,k=>by show 1 + n.length + t.length + atB a + bulk k + 0≤0 + (1 + n.length + t.length + atB a + bulk k);omega
 | node n' a' t' k' nil,n,a,t,k=>by
  unfold snoc
  split
  ·show 1 + n'.length + (t'++t).length + atB a' + bulk k' + 0≤(1 + n'.length + t'.length + atB a' + bulk k' + 0) + (1 + n.length + t.length + atB a + bulk k)
   rw[List.length_append];omega
  ·show 1 + n'.length + t'.length + atB a' + bulk k' + (1 + n.length + t.length + atB a + bulk k + 0)≤(1 + n'.length + t'.length + atB a' + bulk k' + 0) + (1 + n.length + t.length + atB a + bulk k)
   omega
 | node n' a' t' k' (node m b u j r),n,a,t,k=>by
  have:=z5e (node m b u j r) n a t k;show 1 + n'.length + t'.length + atB a' + bulk k' + bulk (snoc n a t k (node m b u j r))≤(1 + n'.length + t'.length + atB a' + bulk k' + bulk (node m b u j r)) + (1 + n.length + t.length + atB a + bulk k);omega
theorem q03:∀ (g f:Fo),bulk (joins f g)≤bulk f + bulk g
 | nil,f=>Nat.le_refl _
 | node n a t k r,f=>by
  have h1:=q03 r (snoc n a t k f);have h2:=z5e f n a t k;show bulk (joins (snoc n a t k f) r)≤bulk f + (1 + n.length + t.length + atB a + bulk k + bulk r);omega
theorem z7m:∀ f:Fo,(lastT f).length≤bulk f
 | nil=>Nat.le_refl _
 | node n a t k nil=>by show t.length≤1 + n.length + t.length + atB a + bulk k + 0;omega
 | node n a t k (node m b u j r)=>by
  have:=z7m (node m b u j r);show (lastT (node m b u j r)).length≤1 + n.length + t.length + atB a + bulk k + bulk (node m b u j r);omega
end Fo
end Mk
namespace Go.Proofs.YtjonkbdldebkiaaGreatDoor
open Go.RowKit
theorem Y4.push {w:World} {K:Nat→Prop} {n:List UInt8} {a:List Mk.At} {t:List UInt8} {k:Mk.Fo} {va:Value} {ao:Option Addr} {cap:Nat} {zs:List Value} (h2:AtsV w K va a) (h3:z2e w K ao zs) (h4:k.len≤maxLen) (h5:Y4 w K k zs):∀ (f:Mk.Fo) (xs:List Value),Y4 w K f xs→f.merges n=false→Y4 w K (Mk.Fo.snoc n a t k f) (xs++[.string (st n),va,.string (st t),.slice ao k.len cap])
 | .nil,xs,h,_=>by
  have h:xs=[]:=h;subst h;exact⟨va,ao,cap,zs,[],rfl,h2,h3,h4,h5,rfl⟩
 | .node n' a' t' k' .nil,xs,h,hm=>by
  obtain⟨va',ao',cap',zs',ys,g1,g2,g3,g4,g5,g6⟩:=h;have g6:ys=[]:=g6;subst g6;have h1:¬ (n=[]∧n'=[]):=by
   rintro ⟨rfl,rfl⟩;rw[(Mk.Fo.Y9 _ _).2 ⟨rfl,(by intro e;cases e),rfl⟩] at hm;cases hm
  unfold Mk.Fo.snoc;rw[if_neg h1,g1];exact⟨va',ao',cap',zs',_,by simp only [List.append_nil],g2,g3,g4,g5,va,ao,cap,zs,[],rfl,h2,h3,h4,h5,rfl⟩
 | .node n' a' t' k' (.node m b u j r),xs,h,hm=>by
  obtain⟨va',ao',cap',zs',ys,g1,g2,g3,g4,g5,g6⟩:=h;have:=Y4.push (n:=n) (t:=t) (cap:=cap) h2 h3 h4 h5 (.node m b u j r) ys g6 (by rwa [Mk.Fo.z6c] at hm);rw[g1,List.append_assoc];exact⟨va',ao',cap',zs',_,rfl,g2,g3,g4,g5,this⟩
theorem Y4.merge {w:World} {K:Nat→Prop} {n:List UInt8} {a:List Mk.At} {t:List UInt8} {k:Mk.Fo}:∀ (f:Mk.Fo) (xs:List Value),Y4 w K f xs→f.merges n=true→Y4 w K (Mk.Fo.snoc n a t k f) (xs.set (4 * (f.len - 1) + 2) (.string (st (f.lastT++t))))
 | .nil,xs,h,hm=>by rw[Mk.Fo.z4z] at hm;cases hm
 | .node n' a' t' k' .nil,xs,h,hm=>by
  obtain⟨va',ao',cap',zs',ys,g1,g2,g3,g4,g5,g6⟩:=h;have h1:n=[]∧n'=[]:=⟨((Mk.Fo.Y9 _ _).1 hm).1,((Mk.Fo.Y9 _ _).1 hm).2.2⟩;unfold Mk.Fo.snoc;rw[if_pos h1,g1];exact⟨va',ao',cap',zs',ys,rfl,g2,g3,g4,g5,g6⟩
 | .node n' a' t' k' (.node m b u j r),xs,h,hm=>by
  obtain⟨va',ao',cap',zs',ys,g1,g2,g3,g4,g5,g6⟩:=h;have hh:=Y4.merge (n:=n) (a:=a) (t:=t) (k:=k) (.node m b u j r) ys g6 (by rwa [Mk.Fo.z6c] at hm);refine⟨va',ao',cap',zs',_,?_,g2,g3,g4,g5,hh⟩;rw[g1];have e:4 * ((Mk.Fo.node n' a' t' k' (.node m b u j r)).len - 1) + 2=4 + (4 * ((Mk.Fo.node m b u j r).len - 1) + 2):=by
   show 4 * (r.len + 1 + 1 - 1) + 2=4 + (4 * (r.len + 1 - 1) + 2);omega
  rw[e,List.set_append_right _ _ (by simp)];simp[Mk.Fo.lastT]
theorem Y4.last_ {w:World} {K:Nat→Prop}:∀ (f:Mk.Fo) (xs:List Value),Y4 w K f xs→f ≠ .nil→xs[4 * (f.len - 1)]? = some (.string (st f.z6q))∧xs[4 * (f.len - 1) + 2]? = some (.string (st f.lastT))
 | .nil,_,_,hn=>absurd rfl hn
 | .node n' a' t' k' .nil,xs,h,_=>by
  obtain⟨va',ao',cap',zs',ys,g1,_⟩:=h;rw[g1];exact⟨rfl,rfl⟩
 | .node n' a' t' k' (.node m b u j r),xs,h,_=>by
  obtain⟨va',ao',cap',zs',ys,g1,g2,g3,g4,g5,g6⟩:=h;obtain⟨h1,h2⟩:=Y4.last_ (.node m b u j r) ys g6 (by intro e;cases e);have e:(Mk.Fo.node n' a' t' k' (.node m b u j r)).len - 1=((Mk.Fo.node m b u j r).len - 1) + 1:=by
   show r.len + 1 + 1 - 1=(r.len + 1 - 1) + 1;omega
  rw[g1,e];constructor
  ·rw[show 4 * ((Mk.Fo.node m b u j r).len - 1 + 1)=4 * ((Mk.Fo.node m b u j r).len - 1) + 4 by omega,List.getElem?_append_right (by simp)]
   simpa [Mk.Fo.z6q] using h1
  ·rw[show 4 * ((Mk.Fo.node m b u j r).len - 1 + 1) + 2=4 * ((Mk.Fo.node m b u j r).len - 1) + 2 + 4 by omega,List.getElem?_append_right (by simp)]
   simpa [Mk.Fo.lastT] using h2
theorem z4s {w:World} {B size n:Nat} {e:TypeId} {v:Value} {xs:List Value} (h:w.ownsRow B e size v n xs) {g:Nat} (hg:v.ownBlock=some g) (i:Nat) (u:Value):(w.setCell ⟨g,i,none⟩ u).ownsRow B e size v n (xs.set i u):=by
 refine⟨by rw[List.length_set];exact h.1,?_⟩
 rcases h.2 with ⟨hv,_⟩ | ⟨g',cap,cur,hv,hb,hh,hnc,hcm,hcs,ht⟩
 ·rw[hv] at hg;cases hg
 ·rw[hv] at hg
  injection hg with hg;have hg:g'=g:=hg;subst hg;refine .inr ⟨g',cap,cur.setIfInBounds i u,hv,hb,?_,hnc,hcm,by simpa using hcs,?_⟩
  ·have:=Blk.set_ (w:=w) (g:=g') (t:=e) (cs:=cur) hh i u
   exact this
  ·rw[← ht,Array.toList_setIfInBounds,List.take_set]
structure OwnF (w:World) (B:Nat) (K:Nat→Prop) (v:Value) (f:Mk.Fo) (xs:List Value):Prop where
 own:w.ownsRow B 53 4 v f.len xs
 cells:Y4 w K f xs
 ne:∀ g,v.ownBlock=some g→¬ K g
 le:∀ b,K b→b < w.heap.size
theorem OwnF.frame {w w':World} {B:Nat} {K:Nat→Prop} {v:Value} {f:Mk.Fo} {xs:List Value} (h:OwnF w B K v f xs) (hs:w.heap.size≤w'.heap.size) (hk:∀ b,b < w.heap.size→(K b∨v.ownBlock=some b)→w'.heap[b]? = w.heap[b]?):OwnF w' B K v f xs:=by
 refine⟨⟨h.own.1,h.own.2.imp id ?_⟩,h.cells.frame fun b hb=>⟨hb,hk b (h.le b hb) (.inl hb)⟩,h.ne,fun b hb=>Nat.lt_of_lt_of_le (h.le b hb) hs⟩;rintro ⟨g,cap,cur,h1,h2,h3,h4⟩;have e:v.ownBlock=some g:=by rw[h1];rfl
 exact⟨g,cap,cur,h1,h2,(hk g (h.own.lt g e).2 (.inr e)).trans h3,h4⟩
theorem OwnF.foV {w:World} {B:Nat} {K K':Nat→Prop} {v:Value} {f:Mk.Fo} {xs:List Value} (h:OwnF w B K v f xs) (hK:∀ b,K b→K' b) (ho:∀ g,v.ownBlock=some g→K' g):FoV w K' v f:=by
 obtain⟨ao,cap,h1,h2,h3,h4⟩:=z2e.of_own h.own ho;exact⟨ao,cap,xs,h1,h2,h.cells.frame fun b hb=>⟨hK b hb,rfl⟩,h4⟩
def KT (w:World) (B:Nat) (b:Nat):Prop:=B≤b∧∃ cs f,w.heap[b]? = some (.cells cs 56 f)
theorem KT.lt {w:World} {B b:Nat} (h:KT w B b):b < w.heap.size:=by
 obtain⟨_,cs,f,h⟩:=h
 rcases Nat.lt_or_ge b w.heap.size with h' | h'
 ·exact h'
 ·rw[Array.getElem?_eq_none h'] at h;cases h
theorem KT.ne {w:World} {B b g:Nat} {T:TypeId} {cs:Array Value} (h:KT w B b) (hg:∃ f,w.heap[g]? = some (.cells cs T f)) (hT:56 ≠ T):b ≠ g:=by
 rintro rfl;obtain⟨_,cs',f',h⟩:=h;obtain⟨f,hg⟩:=hg;rw[hg] at h;injection h with h;injection h with h1 h2 h3;exact hT h2.symm
theorem KT.keep {w w':World} {B b:Nat} (h:KT w B b) (hb:w'.heap[b]? = w.heap[b]?):KT w' B b∧w'.heap[b]? = w.heap[b]?:=⟨⟨h.1,by rw[hb];exact h.2⟩,hb⟩
theorem z04 {S:Nat→Prop} {w w':World} {B size n:Nat} {e:TypeId} {v:Value} {xs:List Value} (h:w.ownsRow B e size v n xs) (ha:Ap S w w') (hS:∀ g,v.ownBlock=some g→¬ S g):w'.ownsRow B e size v n xs:=by
 refine⟨h.1,h.2.imp id ?_⟩;rintro ⟨g,cap,cur,h1,h2,h3,h4⟩;have hlt:g < w.heap.size:=by
  rcases Nat.lt_or_ge g w.heap.size with h' | h'
  ·exact h'
  ·rw[Array.getElem?_eq_none h'] at h3;cases h3
 exact⟨g,cap,cur,h1,h2,(ha.block g hlt (hS g (by rw[h1];rfl))).trans h3,h4⟩
structure RdO (w:World) (B R:Nat) (s:ByteArray) (k:Nat) (tx:List UInt8) (ts:List Mk.Tok) (ov:Value) (xs:List Value):Prop where
 hB:4 < B
 hBR:B≤R
 rd:Rd w R s k tx ov
 own:w.ownsRow B 181 4 ov ts.length xs
 cells:z0v w (KT w B) ts xs
 ne:ov.ownBlock ≠ some R
def RdS (w:World) (B R:Nat) (s:ByteArray) (k:Nat) (tx:List UInt8) (ts:List Mk.Tok):Prop:=∃ ov xs,RdO w B R s k tx ts ov xs
section
variable {w w' : World} {B R : Nat} {s : ByteArray} {k : Nat} {tx : List UInt8} {ts : List Mk.Tok} {ov : Value} {xs : List Value}
theorem RdO.next (h:RdO w B R s k tx ts ov xs) {j:Nat} {ty:List UInt8} (ha:Ap (fun b=>b=R) w w') (hr:Rd w' R s j ty ov):RdO w' B R s j ty ts ov xs :=
 ⟨h.hB,h.hBR,hr,z04 h.own ha (fun g hg e=>h.ne (by rw[hg,show g=R from e])),h.cells.frame fun b hb=>hb.keep (ha.block b hb.lt (fun e=>hb.ne ⟨_,h.rd⟩ (by decide) e)),h.ne⟩
theorem RdO.rlt (h:RdO w B R s k tx ts ov xs):R < w.heap.size:=Blk.lt h.rd
theorem RdO.below (h:RdO w B R s k tx ts ov xs) (hb:Below w.heap.size w w'):RdO w' B R s k tx ts ov xs :=
 h.next (Ap.of_below hb) (h.rd.ap_far (Ap.of_below (S:=fun _=>False) hb) (fun q=>q))
theorem RdO.setText (h:RdO w B R s k tx ts ov xs) (ty:List UInt8):RdO (w.setCell ⟨R,2,none⟩ (.string (st ty))) B R s k ty ts ov xs :=
 h.next ((Ap.refl (fun b=>b=R) w).setCell (p:=⟨R,2,none⟩) rfl _) (Blk.set_ h.rd 2 _)
theorem RdO.setAt (h:RdO w B R s k tx ts ov xs) (j:Nat):RdO (w.setCell ⟨R,1,none⟩ (.int .i64 j)) B R s j tx ts ov xs :=
 h.next ((Ap.refl (fun b=>b=R) w).setCell (p:=⟨R,1,none⟩) rfl _) (h.rd.at_ j)
theorem RdO.blt (h:RdO w B R s k tx ts ov xs):B≤w.heap.size:=Nat.le_trans h.hBR (Nat.le_of_lt h.rlt)
def j2r (t:Mk.Tok) (va:Value):List Value:=[.int .i64 t.kind,.string (st t.name),va,.string (st t.text)]
theorem RdO.push (h:RdO w B R s k tx ts ov xs) {t:Mk.Tok} {va:Value} (ha:AtsV w (KT w B) va t.ats) {w1 w2:World} {v':Value} (h1:Below w.heap.size w w1) (hown:w2.ownsRow B 181 4 v' (ts.length + 1) (xs++j2r t va)) (hg:w1.grownBy w2 ov.ownBlock) (hf:v'.ownBlock=ov.ownBlock∨v'.ownBlock=some w1.heap.size) :
  RdS (w2.setCell ⟨R,3,none⟩ v') B R s k tx (ts++[t])∧Below B w (w2.setCell ⟨R,3,none⟩ v')∧Ap (fun b=>b=R∨ov.ownBlock=some b) w (w2.setCell ⟨R,3,none⟩ v'):=by
 have hlt:=h.rlt;have hl1:R < w1.heap.size:=Nat.lt_of_lt_of_le hlt h1.size;have hne:v'.ownBlock ≠ some R:=by
  rcases hf with e | e
  ·rw[e];exact h.ne
  ·rw[e];intro q;injection q with q;omega
 have hkeep:∀ b,KT w B b→KT (w2.setCell ⟨R,3,none⟩ v') B b∧(w2.setCell ⟨R,3,none⟩ v').heap[b]? = w.heap[b]?:=by
  intro b hb;refine hb.keep ?_;rw[Below.heap_setCell w2 ⟨R,3,none⟩ v' b (fun e=>hb.ne ⟨_,h.rd⟩ (by decide) e)];rw[hg.block b (Nat.lt_of_lt_of_le hb.lt h1.size) ?_]
  ·exact h1.block b hb.lt
  ·intro e
   rcases h.own.2 with ⟨hv,_⟩ | ⟨g,cap,cur,hv,_,hh,_⟩
   ·rw[hv] at e;cases e
   ·rw[hv] at e
    injection e with e;exact hb.ne ⟨_,hh⟩ (by decide) e
 refine⟨⟨v',xs++j2r t va,h.hB,h.hBR,?_,?_,?_,hne⟩,?_⟩
 ·have hr:Rd w2 R s k tx ov:=(hg.block R hl1 (fun e=>h.ne e.symm)).trans ((h1.block R hlt).trans h.rd)
  exact Blk.set_ hr 3 v'
 ·rw[List.length_append]
  exact ownsRow_setCell_other hown (a:=⟨R,3,none⟩) hne v'
 ·exact(h.cells.frame hkeep).snoc (ha.frame hkeep)
 ·refine⟨Below.setCell ?_ (p:=⟨R,3,none⟩) h.hBR v',?_⟩
  ·exact(h1.mono h.blt).grown hg (Nat.le_trans h.blt h1.size) (fun k hk=>(h.own.lt k hk).1)
  ·refine((Ap.of_below h1).grown hg (fun k _ e=>.inr e)).setCell (p:=⟨R,3,none⟩) (.inl rfl) v'
end
theorem Y1 {w:World} {B size n:Nat} {e:TypeId} {v:Value} {xs:List Value} (h:w.ownsRow B e size v n xs):∃ ao cap,v=.slice ao n cap:=by
 rcases h.2 with ⟨hv,hn⟩ | ⟨g,cap,cur,hv,_⟩
 ·exact⟨none,0,by rw[hv,hn]⟩
 ·exact⟨_,_,hv⟩
theorem Tryz.infoTok:(Tryz.prog.info? 181).map (fun i=>(i.zero,i.size,i.bytes))=some (some (.agg #[.int .i64 0,.string ⟨#[]⟩,.slice none 0 0,.string ⟨#[]⟩]),4,64):=by kernel_rfl

theorem q6c {w:World} {B R:Nat} {s:ByteArray} {k:Nat} {tx:List UInt8} {ts:List Mk.Tok} (hg:Gl w) {ov:Value} {xs:List Value} (h:RdO w B R s k tx ts ov xs) (htx:tx.length≤1048576) (hts:ts.length≤1048576) :
  Calls Tryz.prog 127 #[.pointer (some ⟨R,0,none⟩)] w fun e w'=>e=.returned (.tuple #[])∧RdS w' B R s k [] (Mk.flush tx ts)∧Below B w w'∧Ap (fun b=>b=R∨ov.ownBlock=some b) w w':=by
 have c2:=h.rd.c2;have ht:=q2h (st tx) w (by rw[y9];exact htx) hg;rw[z0y] at ht;have HT:=Lib.hid ht;have H:=Lib.hid h;clear ht h;go_enter Tryz.func127,Tryz.ntmps127;go_wp2_with fail;refine HT.out.mono ?_;rintro e w1 ⟨rfl,hb1⟩;have H1:=Lib.hid (H.out.below hb1);have L1:=Lib.hid (hb1.mono H.out.blt);have A1:=Lib.hid (Ap.of_below (S:=fun b=>b=R∨ov.ownBlock=some b) hb1);have HF:Hid (Mk.flush tx ts=if (Mk.take tx).1=[] then ts else ts++[⟨1,[],[],(Mk.take tx).1⟩]):=by show _=_;rfl
 clear HT hb1 H c2;generalize (Mk.take tx).2=bb;generalize (Mk.take tx).1=t at HF ⊢;have hst:(st t).toList=t:=Lib.toList_data _;have f2:=H1.out.rd.fz 2;have f3:=H1.out.rd.fz 3;have c2:=H1.out.rd.c2;have c3:=H1.out.rd.c3
 by_cases h0:t=[]
 ·subst h0
  rw[if_pos rfl] at HF;have hst:(st []).toList=[]:=Lib.toList_data _;go_wp2_with fail;go_end0;exact⟨rfl,by rw[HF.out];exact⟨_,_,H1.out.setText []⟩,L1.out.setCell (p:=⟨R,2,none⟩) H1.out.hBR _,A1.out.setCell (p:=⟨R,2,none⟩) (.inl rfl) _⟩
 ·rw[if_neg h0] at HF
  have he:t.isEmpty=false:=by
   cases t with
   | nil=>exact absurd rfl h0
   | cons _ _=>rfl
  obtain⟨i0,hi,hz0,hz1,hz2⟩:=info_parts Tryz.infoTok;have hbl:=H1.out.blt;have ow10:=z04 H1.out.own ((Ap.refl (fun _=>False) w1).alloc (.cells #[.int .i64 1,.string ⟨#[]⟩,.slice none 0 0,.string (st t)] 181)) (fun _ _ q=>q);have hb11:Below w1.heap.size w1 (w1.alloc (.cells #[.int .i64 1,.string ⟨#[]⟩,.slice none 0 0,.string (st t)] 181)):=(Below.refl _ w1).alloc (Nat.le_refl _) _;go_wp2_with (at_builtin;refine Y2 rfl _ _ 63 rfl B 181 i0 (.agg #[.int .i64 0,.string ⟨#[]⟩,.slice none 0 0,.string ⟨#[]⟩]) 4 64 Tryz.underlying63 hi hz0 hz1 hz2 rfl (by decide) _ _ _ rfl ow10 ⟨w1.heap.size,0,none⟩ 1 1 [.int .i64 1,.string ⟨#[]⟩,.slice none 0 0,.string (st t)] rfl rfl (z07 _ _ _) (by intro u hu;simp at hu;rcases hu with rfl | rfl | rfl | rfl <;> rfl) (by decide) (by unfold maxLen;omega) (by omega) (by simp;omega) ?_);intro v' w2 hown' hgrow hfresh;obtain⟨r1,r2,r3⟩:=H1.out.push (t:=⟨1,[],[],t⟩) (va:=.slice none 0 0) (AtsV.nil _ _) hb11 hown' hgrow (hfresh.imp id (fun e=>by rw[e];simp));have R1:=Lib.hid r1;have R2:=Lib.hid r2;have R3:=Lib.hid r3;have f3':w2.frozen? ⟨R,3,none⟩=false:=by
   obtain⟨_,_,r⟩:=r1;have:=r.rd.fz 3
   rwa [World.frozen?_setCell] at this
  have c3':w2.cell? ⟨R,3,none⟩=some ov:=by
   have hR:Rd w2 R s k tx ov:=(hgrow.block R (Nat.lt_of_lt_of_le H1.out.rlt hb11.size) (fun e=>H1.out.ne e.symm)).trans ((hb11.block R H1.out.rlt).trans H1.out.rd);exact hR.c3
  have f2':(w2.setCell ⟨R,3,none⟩ v').frozen? ⟨R,2,none⟩=false:=by
   obtain⟨_,_,r⟩:=r1;exact r.rd.fz 2
  have c2':(w2.setCell ⟨R,3,none⟩ v').cell? ⟨R,2,none⟩=some (.string (st tx)):=by
   obtain⟨_,_,r⟩:=r1;exact r.rd.c2
  obtain⟨ao,cap,rfl⟩:=Y1 hown';clear hown' hgrow hfresh r1 r2 r3 ow10 hb11 f2 f3 c2 c3;go_wp2_with fail;go_end0;refine⟨rfl,?_,(L1.out.trans R2.out).setCell (p:=⟨R,2,none⟩) H1.out.hBR _,(A1.out.trans R3.out).setCell (p:=⟨R,2,none⟩) (.inl rfl) _⟩;rw[HF.out];obtain⟨ov2,xs2,r⟩:=R1.out;exact⟨_,_,r.setText []⟩

def Keeps (w w':World):Prop:=∀ (b:Nat) (cs:Array Value) (f:Nat × Nat),w.heap[b]? = some (Obj.cells cs 4 f)→w'.heap[b]? = some (Obj.cells cs 4 f)
structure Fr (B:Nat) (w w':World):Prop where
 below:Below B w w'
 keeps:Keeps w w'
theorem Fr.refl (B:Nat) (w:World):Fr B w w:=⟨Below.refl B w,fun _ _ _ h=>h⟩
theorem Fr.trans {B:Nat} {a b c:World} (h:Fr B a b) (k:Fr B b c):Fr B a c:=⟨h.below.trans k.below,fun i cs f q=>k.keeps i cs f (h.keeps i cs f q)⟩
theorem Fr.drewN {B:Nat} {a b:World} (h:Fr B a b) (n:Nat):Fr B a (b.drewN n):=⟨below_drewN h.below n,h.keeps⟩
theorem Fr.drew {B:Nat} {a b:World} (h:Fr B a b):Fr B a b.drew:=⟨h.below.drew,h.keeps⟩
theorem lt_of_heap {w:World} {b:Nat} {o:Obj} (h:w.heap[b]? = some o):b < w.heap.size:=by
 rcases Nat.lt_or_ge b w.heap.size with h' | h'
 ·exact h'
 ·rw[Array.getElem?_eq_none h'] at h;cases h
theorem z2i {w:World} {b g:Nat} {cs cs':Array Value} {f f':Nat × Nat} {T T':TypeId} (h:w.heap[b]? = some (.cells cs T f)) (hg:w.heap[g]? = some (.cells cs' T' f')) (hT:T ≠ T'):b ≠ g:=by
 rintro rfl;rw[hg] at h;injection h with h;injection h with h1 h2 h3;exact hT h2.symm
section
variable {w w' : World} {B R : Nat} {s : ByteArray} {k : Nat} {tx : List UInt8} {ts : List Mk.Tok} {ov : Value} {xs : List Value}
theorem Fr.of_below (h:RdO w B R s k tx ts ov xs) (hb:Below w.heap.size w w'):Fr B w w':=⟨hb.mono h.blt,fun b _ _ q=>(hb.block b (lt_of_heap q)).trans q⟩
theorem Fr.of_ap (h:RdO w B R s k tx ts ov xs) (ha:Ap (fun b=>b=R) w w'):Fr B w w' :=
 ⟨ha.below h.blt (fun k hk e=>by have e:k=R:=e;have:=h.hBR;omega),fun b _ _ q=>(ha.block b (lt_of_heap q) (fun e=>z2i q h.rd (by decide) e)).trans q⟩
theorem Fr.of_push (h:RdO w B R s k tx ts ov xs) (hb:Below B w w') (ha:Ap (fun b=>b=R∨ov.ownBlock=some b) w w'):Fr B w w':=by
 refine⟨hb,fun b _ _ q=>(ha.block b (lt_of_heap q) ?_).trans q⟩;rintro (e | e)
 ·exact z2i q h.rd (by decide) e
 ·rcases h.own.2 with ⟨hv,_⟩ | ⟨g,cap,cur,hv,_,hh,_⟩
  ·rw[hv] at e;cases e
  ·rw[hv] at e
   injection e with e;exact z2i q hh (by decide) e.symm
theorem Fr.tok {P:Nat} {cs:Array Value} (hP:Blk w P 181 cs) (hB:B≤P) (i:Nat) (v:Value):Fr B w (w.setCell ⟨P,i,none⟩ v) :=
 ⟨(Below.refl B w).setCell (p:=⟨P,i,none⟩) hB v,fun b _ _ q=>(Below.heap_setCell w ⟨P,i,none⟩ v b (fun e=>z2i q hP (by decide) e)).trans q⟩
theorem Fr.own (h:RdO w B R s k tx ts ov xs) (i:Nat) (v:Value):Fr B w (w.setCell ⟨R,i,none⟩ v):=Fr.of_ap h ((Ap.refl (fun b=>b=R) w).setCell (p:=⟨R,i,none⟩) rfl v)
end
end Go.Proofs.YtjonkbdldebkiaaGreatDoor
