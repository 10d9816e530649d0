/- Contracts of slices.Contains over bytes and of the date reader's method sign. Condition: at most 1000 signs are asked for. -/
import Derived.Test.YtjonkbdldebkiaaGreatDoorYWdB
import Derived.Test.YtjonkbdldebkiaaGreatDoorYUrlD
import Derived.Test.YtjonkbdldebkiaaGreatDoorYWkL
import Derived.Test.YtjonkbdldebkiaaGreatDoorYWeA
set_option linter.unusedVariables false
set_option linter.unusedSimpArgs false
set_option maxHeartbeats 16000000
set_option maxRecDepth 100000
namespace Go.Proofs.YtjonkbdldebkiaaGreatDoor
open Go.Proofs.Tryz Go.RowKit
theorem j7g (l:List UInt8) (c:UInt8) (X cap:Nat) (w:World) (hl:l.length≤1000) (hcl:∀ j (h:j < l.length),w.cell? ⟨X,j,none⟩=some (.int .u8 l[j].toNat)) :
  Calls prog 220 #[.slice (some ⟨X,0,none⟩) l.length cap,.int .u8 c.toNat] w fun e w'=>∃ i:Int,e=.returned (.int .i64 i)∧decide (0≤i)=l.contains c∧w'=w:=by
 have HCL:=Ld hcl;clear hcl;go_enter func220,ntmps220;go_wp2_with fail
 go_loopw [8] (fun i wr=>∃ k:Nat,k≤l.length∧i=.int .i64 k∧Hid (c ∉ l.take k)∧Hid (w=wr)) (fun i _=>l.length - (intOf i).toNat)
 case atStart=>exact⟨0,Nat.zero_le _,rfl,by show _ ∉ _;simp,by first | exact rfl | exact trivial⟩
 case round =>
  obtain⟨k,hk,rfl,HN,HW⟩:=hrel;have hw:=HW.out;clear HW;subst hw
  by_cases hlt:k < l.length
  ·have c0:=HCL.out k hlt
   have HT:Hid (l.take (k + 1)=l.take k++[l[k]]):=List.take_succ_eq_append_getElem hlt;have HM:Hid (l[k] ∈ l):=List.getElem_mem hlt;obtain⟨x,hx⟩:∃ x,l[k]=x:=⟨_,rfl⟩;rw[hx] at c0 HT HM;clear hx
   by_cases h:c=x
   ·have HC:Hid (l.contains c=true):=by show _=_;rw[List.contains_iff_mem];rw[h];exact HM.out
    have e1:((c.toNat:Int) == (x.toNat:Int))=true:=by rw[h];simp
    clear h;go_wp2_with fail;go_ret;exact⟨_,rfl,by rw[HC.out];exact decide_eq_true (by omega),rfl⟩
   ·have HN2:Hid (c ∉ l.take (k + 1)):=by
     show _ ∉ _;rw[HT.out];intro q
     rcases List.mem_append.1 q with q | q
     ·exact HN.out q
     ·exact h (by simpa using q)
    have e1:((c.toNat:Int) == (x.toNat:Int))=false:=by
     rw[beq_eq_false_iff_ne];intro q;exact h (UInt8.toNat_inj.1 (by omega))
    clear h;go_wp2_with fail;go_roundw
    case rel=>exact⟨k + 1,by omega,by go_num,HN2,by first | exact rfl | exact trivial⟩
    case measure=>simp[intOf];omega
  ·have hke:k=l.length:=by omega
   have HC:Hid (l.contains c=false):=by
    show _=_;have:=HN.out;rw[hke,List.take_length] at this;rw[Bool.eq_false_iff];intro q;exact this (List.contains_iff_mem.1 q)
   clear hke;go_wp2_with fail;go_ret;exact⟨-1,rfl,by rw[HC.out];rfl,rfl⟩
theorem q71 (l:List UInt8) (c:UInt8) (X cap:Nat) (w:World) (hl:l.length≤1000) (hcl:∀ j (h:j < l.length),w.cell? ⟨X,j,none⟩=some (.int .u8 l[j].toNat)) :
  Calls prog 169 #[.slice (some ⟨X,0,none⟩) l.length cap,.int .u8 c.toNat] w fun e w'=>e=.returned (.bool (l.contains c))∧w'=w:=by
 have HI:=Ld (j7g l c X cap w hl hcl);clear hcl;go_enter func169,ntmps169;go_wp2_with fail;refine HI.out.mono ?_;rintro e w1 ⟨i,rfl,hi,hw⟩;subst w1;have HC:=Ld hi;clear hi HI;go_wp2_with fail;go_ret;exact⟨Z8 HC.out,rfl⟩
def DrS (w:World) (R:Nat) (r:Fd.Dr):Prop:=Blk w R 160 #[.string (st r.s),.bool r.short]
theorem z1t (of:List UInt8) (r:Fd.Dr) (R:Nat) (w:World) (h:DrS w R r) (hof:of.length≤1000) :
  Calls prog 104 #[.pointer (some ⟨R,0,none⟩),.string (st of)] w fun e w'=>e=.returned (.int .u8 (Fd.Q9 of r).1.toNat)∧DrS w' R (Fd.Q9 of r).2∧Ap (fun b=>b=R) w w':=by
 have hst:∀ l:List UInt8,(st l).toList=l:=fun l=>Lib.toList_data _
 obtain⟨s,sh⟩:=r;have RB:=Ld h;have hRl:=Blk.lt h;have c0:w.cell? ⟨R,0,none⟩=some (.string (st s)):=Blk.cell h 0;have c1:w.cell? ⟨R,1,none⟩=some (.bool sh):=Blk.cell h 1;have f0:=Blk.frozen h 0;have f1:=Blk.frozen h 1;clear h
 cases s with
 | nil =>
  go_enter func104,ntmps104;go_wp2_with fail;go_ret;exact⟨rfl,Blk.set_ (Blk.set_ RB.out 0 _) 1 _,((Ap.refl (fun b=>b=R) w).setCell (p:=⟨R,0,none⟩) rfl _).setCell (p:=⟨R,1,none⟩) rfl _⟩
 | cons c t =>
  have hcv:=Lib.run_convert_string_bytes (P:=prog) w 9 94 5 (st of) (u:=.string) underlying9 underlying94 underlying5;have hcl:=fun j hj=>Lib.bytesWorld_cell w 5 (st of) j hj
  have hbw:Below w.heap.size w (Lib.bytesWorld w 5 (st of)):=⟨rfl,rfl,rfl,by rw[Lib.bytesWorld_size];omega,fun k hk=>Lib.bytesWorld_at_old w _ (st of) k hk⟩;generalize Lib.bytesWorld w 5 (st of)=wv at hcv hcl hbw;rw[Z4] at hcv;have HCL:Hid (∀ j (h:j < of.length),wv.cell? ⟨w.heap.size,j,none⟩=some (.int .u8 of[j].toNat)):=by
   intro j hj;rw[hcl j (by rw[Z4];exact hj)];simp[st,List.getD_eq_getElem?_getD,List.getElem?_eq_getElem hj]
  have d0:wv.cell? ⟨R,0,none⟩=some (.string (st (c :: t))):=(hbw.cell (p:=⟨R,0,none⟩) hRl).trans c0;have d1:wv.cell? ⟨R,1,none⟩=some (.bool sh):=(hbw.cell (p:=⟨R,1,none⟩) hRl).trans c1;have HBW:=Ld hbw;clear hcl hbw;have hS0:0 < (st (c :: t)).size:=by rw[Z4];simp
  have hget:∀ q:0 < (st (c :: t)).size,(st (c :: t))[0]'q=c:=fun _=>rfl
  have hext:(st (c :: t)).extract 1 (st (c :: t)).size=st t:=by rw[Y1,Z4];simp[st]
  have HCN:=Ld (q71 of c w.heap.size (grownCap w of.length 0 5) wv hof HCL.out);have e0:wv.frozen? ⟨R,0,none⟩=false:=(HBW.out.frozen (p:=⟨R,0,none⟩) hRl).trans f0;have e1:wv.frozen? ⟨R,1,none⟩=false:=(HBW.out.frozen (p:=⟨R,1,none⟩) hRl).trans f1;have RB2:=Ld (Blk.below RB.out HBW.out hRl);have AP2:Hid (Ap (fun b=>b=R) w wv):=Ap.of_below HBW.out;clear HCL;have HSD:Hid (Fd.Q9 of ⟨c :: t,sh⟩=if of.contains c then (c,⟨t,sh⟩) else (0,⟨[],true⟩)):=rfl;go_enter func104,ntmps104;go_wp2_with fail;refine HCN.out.mono ?_;rintro e w1 ⟨rfl,hw1⟩;subst w1;clear HCN hcv;obtain⟨b,hb⟩:∃ b,of.contains c=b:=⟨_,rfl⟩;have HBB:=Ld hb;rw[hb];clear hb
  cases b with
  | true =>
   have HE:Hid (Fd.Q9 of ⟨c :: t,sh⟩=(c,⟨t,sh⟩)):=by show _=_;rw[HSD.out,HBB.out,if_pos rfl]
   go_wp2_with fail;go_ret;exact⟨by rw[HE.out];rfl,by rw[HE.out];exact Blk.set_ RB2.out 0 _,AP2.out.setCell (p:=⟨R,0,none⟩) rfl _⟩
  | false =>
   have HE:Hid (Fd.Q9 of ⟨c :: t,sh⟩=(0,⟨[],true⟩)):=by show _=_;rw[HSD.out,HBB.out,if_neg (by decide)]
   go_wp2_with fail;go_ret;exact⟨by rw[HE.out];rfl,by rw[HE.out];exact Blk.set_ (Blk.set_ RB2.out 0 _) 1 _,(AP2.out.setCell (p:=⟨R,0,none⟩) rfl _).setCell (p:=⟨R,1,none⟩) rfl _⟩
end Go.Proofs.YtjonkbdldebkiaaGreatDoor
namespace Fd
theorem ten_mem {c:UInt8} (h:tenD.contains c=true):48≤c.toNat∧c.toNat≤57:=by
 rw[List.contains_iff_mem] at h;simp only [tenD,List.mem_cons,List.not_mem_nil,or_false] at h
 rcases h with rfl | rfl | rfl | rfl | rfl | rfl | rfl | rfl | rfl | rfl <;> decide
theorem j4z (r:Dr):0≤max 0 ((((Q9 tenD r).1.toNat:Nat):Int) - 48)∧max 0 ((((Q9 tenD r).1.toNat:Nat):Int) - 48)≤9:=by
 obtain⟨s,sh⟩:=r
 cases s with
 | nil=>exact⟨by show (0:Int)≤max 0 (0 - 48);decide,by show max (0:Int) (0 - 48)≤9;decide⟩
 | cons c t =>
  show 0≤max 0 ((((if tenD.contains c then (c,(⟨t,sh⟩:Dr)) else (0,⟨[],true⟩)).1.toNat:Nat):Int) - 48)∧max 0 ((((if tenD.contains c then (c,(⟨t,sh⟩:Dr)) else (0,⟨[],true⟩)).1.toNat:Nat):Int) - 48)≤9
  split
  ·rename_i h
   have:=ten_mem h;show 0≤max 0 (((c.toNat:Nat):Int) - 48)∧max 0 (((c.toNat:Nat):Int) - 48)≤9;constructor <;> omega
  ·exact⟨by decide,by decide⟩
end Fd
namespace Go.Proofs.YtjonkbdldebkiaaGreatDoor
open Go.Proofs.Tryz Go.RowKit
theorem z1g (many:Nat) (most:Int) (r:Fd.Dr) (R:Nat) (w:World) (h:DrS w R r) (hm:many≤4) :
  Calls prog 103 #[.pointer (some ⟨R,0,none⟩),.int .i64 many,.int .i64 most] w fun e w'=>e=.returned (.int .i64 (Fd.Y0 many most r).1)∧DrS w' R (Fd.Y0 many most r).2∧Ap (fun b=>b=R) w w'∧0≤(Fd.Y0 many most r).1∧(Fd.Y0 many most r).1≤99999:=by
 have HR:=Ld h;have HDD:Hid (Fd.Y0 many most r=((Fd.digD many 0 r).1,⟨(Fd.digD many 0 r).2.s,(Fd.digD many 0 r).2.short || decide (most < (Fd.digD many 0 r).1)⟩)):=rfl;generalize Fd.Y0 many most r=out at HDD ⊢;clear h;go_enter func103,ntmps103;go_wp2_with fail
 go_loopw [7,9] (fun n i wr=>∃ (k:Nat) (nn:Int) (rr:Fd.Dr),k≤many∧i=.int .i64 k∧n=.int .i64 nn∧0≤nn∧nn≤99999∧Hid (nn≤10 ^ k - 1)∧Hid (Fd.digD many 0 r=Fd.digD (many - k) nn rr)∧Hid (DrS wr R rr)∧Hid (Ap (fun b=>b=R) w wr)) (fun _ i _=>many - (intOf i).toNat)
 case atStart=>exact⟨0,0,r,Nat.zero_le _,rfl,rfl,by omega,by omega,by show _≤_;simp,rfl,HR,Ap.refl _ _⟩
 case round =>
  clear HR;obtain⟨k,nn,rr,hk,rfl,rfl,h1,h2,HB,HD,DR,AP⟩:=hrel
  by_cases hlt:k < many
  ·have HS:=Ld (z1t Fd.tenD rr R wr DR.out (by decide))
   have HNX:Hid (Fd.digD (many - k) nn rr=Fd.digD (many - (k + 1)) (10 * nn + max 0 ((((Fd.Q9 Fd.tenD rr).1.toNat:Nat):Int) - 48)) (Fd.Q9 Fd.tenD rr).2):=by
    show _=_;rw[show many - k=(many - (k + 1)) + 1 by omega];rfl
   obtain⟨g1,g2⟩:=Fd.j4z rr;generalize Fd.Q9 Fd.tenD rr=sg at HS HNX g1 g2;obtain⟨c,r2⟩:=sg;simp only at HS HNX g1 g2;have hcl:=c.toNat_lt;go_wp2_with fail;refine HS.out.mono ?_;rintro e w1 ⟨rfl,hd1,ha1⟩;have DR1:=Ld hd1;have AP1:=Ld (AP.out.trans ha1);clear hd1 ha1 HS;go_wp2_with fail;have hpw:nn≤10 ^ k - 1:=HB.out;have hps:(10:Int) ^ (k + 1)=10 * 10 ^ k:=by rw[Int.pow_succ];omega
   have HB2:Hid (10 * nn + max 0 (((c.toNat:Nat):Int) - 48)≤10 ^ (k + 1) - 1):=by show _≤_;omega
   have h9:10 * nn + max 0 (((c.toNat:Nat):Int) - 48)≤99999:=by
    have hk3:k=0∨k=1∨k=2∨k=3:=by omega
    rcases hk3 with rfl | rfl | rfl | rfl <;> simp at hpw <;> omega
   have h8:0≤10 * nn + max 0 (((c.toNat:Nat):Int) - 48):=by omega
   clear hpw hps;go_roundw
   case rel=>exact⟨k + 1,_,r2,by omega,by go_num,rfl,h8,h9,HB2,by show _=_;rw[HD.out,HNX.out],DR1,AP1⟩
   case measure=>simp[intOf];omega
  ·have hke:k=many:=by omega
   have HE:Hid (out=(nn,⟨rr.s,rr.short || decide (most < nn)⟩)):=by
    show _=_;have h:=HD.out;rw[hke,Nat.sub_self] at h;rw[HDD.out,h];rfl
   obtain⟨s,sh⟩:=rr;simp only at HE;have c1:wr.cell? ⟨R,1,none⟩=some (.bool sh):=Blk.cell DR.out 1;have f1:wr.frozen? ⟨R,1,none⟩=false:=Blk.frozen DR.out 1;clear hke HD HDD
   cases sh with
   | true =>
    go_wp2_with fail;go_ret;exact⟨by rw[HE.out];rfl,by rw[HE.out];exact Blk.set_ DR.out 1 _,AP.out.setCell (p:=⟨R,1,none⟩) rfl _,by rw[HE.out];exact h1,by rw[HE.out];exact h2⟩
   | false =>
    go_wp2_with fail;go_ret;exact⟨by rw[HE.out];rfl,by rw[HE.out];exact Blk.set_ DR.out 1 _,AP.out.setCell (p:=⟨R,1,none⟩) rfl _,by rw[HE.out];exact h1,by rw[HE.out];exact h2⟩
theorem q9d (r:Fd.Dr) (R:Nat) (w:World) (h:DrS w R r) :
  Calls prog 105 #[.pointer (some ⟨R,0,none⟩)] w fun e w'=>e=.returned (.int .i64 (Fd.z4d r).1)∧DrS w' R (Fd.z4d r).2∧Ap (fun b=>b=R) w w'∧0≤(Fd.z4d r).1∧(Fd.z4d r).1≤400000000:=by
 have HH:=Ld (fun (W:World) (rr:Fd.Dr) (hW:DrS W R rr)=>z1g 2 23 rr R W hW (by decide));have HM:=Ld (fun (W:World) (rr:Fd.Dr) (hW:DrS W R rr)=>z1g 2 59 rr R W hW (by decide));have HS:=Ld (fun (W:World) (rr:Fd.Dr) (hW:DrS W R rr)=>z1t [58] rr R W hW (by decide));have HC:Hid (Fd.z4d r=(3600 * (Fd.Y0 2 23 r).1 + 60 * (Fd.Y0 2 59 (Fd.Q9 [58] (Fd.Y0 2 23 r).2).2).1 + (Fd.Y0 2 59 (Fd.Q9 [58] (Fd.Y0 2 59 (Fd.Q9 [58] (Fd.Y0 2 23 r).2).2).2).2).1,(Fd.Y0 2 59 (Fd.Q9 [58] (Fd.Y0 2 59 (Fd.Q9 [58] (Fd.Y0 2 23 r).2).2).2).2).2)):=rfl;have DR:=Ld h;clear h;generalize Fd.z4d r=out at HC ⊢;go_enter func105,ntmps105;have K1:=Ld (HH.out w r DR.out);generalize Fd.Y0 2 23 r=x1 at K1 HC;go_wp2_with fail;refine K1.out.mono ?_;rintro e w1 ⟨rfl,hd1,ha1,p1,p2⟩;have DR1:=Ld hd1;have AP1:=Ld ha1;clear hd1 ha1 K1;have K2:=Ld (HS.out w1 _ DR1.out);generalize Fd.Q9 [58] x1.2=x2 at K2 HC;go_wp2_with fail;refine K2.out.mono ?_;rintro e w2 ⟨rfl,hd2,ha2⟩;have DR2:=Ld hd2;have AP2:=Ld (AP1.out.trans ha2);clear hd2 ha2 K2;have K3:=Ld (HM.out w2 _ DR2.out);generalize Fd.Y0 2 59 x2.2=x3 at K3 HC;go_wp2_with fail;refine K3.out.mono ?_;rintro e w3 ⟨rfl,hd3,ha3,p3,p4⟩;have DR3:=Ld hd3;have AP3:=Ld (AP2.out.trans ha3);clear hd3 ha3 K3;have K4:=Ld (HS.out w3 _ DR3.out);generalize Fd.Q9 [58] x3.2=x4 at K4 HC;go_wp2_with fail;refine K4.out.mono ?_;rintro e w4 ⟨rfl,hd4,ha4⟩;have DR4:=Ld hd4;have AP4:=Ld (AP3.out.trans ha4);clear hd4 ha4 K4;have K5:=Ld (HM.out w4 _ DR4.out);generalize Fd.Y0 2 59 x4.2=x5 at K5 HC;obtain⟨a1,b1⟩:=x1;obtain⟨a3,b3⟩:=x3;obtain⟨a5,b5⟩:=x5;simp only at *;go_wp2_with fail;refine K5.out.mono ?_;rintro e w5 ⟨rfl,hd5,ha5,p5,p6⟩;have DR5:=Ld hd5;have AP5:=Ld (AP4.out.trans ha5);clear hd5 ha5 K5;go_wp2_with fail;go_ret;exact⟨by rw[HC.out];rfl,by rw[HC.out];exact DR5.out,AP5.out,by rw[HC.out];show 0≤3600 * a1 + 60 * a3 + a5;omega,by rw[HC.out];show 3600 * a1 + 60 * a3 + a5≤_;omega⟩
end Go.Proofs.YtjonkbdldebkiaaGreatDoor
namespace Fd
theorem q7m (y:Int) (h0:0≤y) (h1:y≤99999):0≤ahead y∧ahead y≤36600000:=by
 unfold ahead
 split
 ·omega
 ·omega
end Fd
namespace Go.Proofs.YtjonkbdldebkiaaGreatDoor
open Go.Proofs.Tryz Go.RowKit
theorem dt_days (y m d:Int) (y0:0≤y) (y1:y≤99999) (m0:1≤m) (m1:m≤12) (d0:1≤d) (d1:d≤31) (w:World) :
  Calls prog 170 #[.int .i64 y,.int .i64 m,.int .i64 d] w fun e w'=>e=.returned (.int .i64 (Fd.z95 y m d))∧Below w.heap.size w w'∧-800000≤Fd.z95 y m d∧Fd.z95 y m d≤40000000:=by
 obtain⟨a1,a2⟩:=Fd.q7m y y0 y1;have HA:=Ld (fun W=>q9f y y0 (by omega) W);have HA70:=Ld (fun W=>q9f 1970 (by omega) (by omega) W);have h70:Fd.ahead 1970=719528:=by decide
 rw[h70] at HA70;have HD:Hid (Fd.z95 y m d=Fd.q8r (m - 1).toNat y (Fd.ahead y - 719528 + d - 1)):=by show _=_;unfold Fd.z95;rw[h70]
 generalize Fd.z95 y m d=out at HD ⊢;generalize Fd.ahead y=a at HA HD a1 a2;have HLG:=Ld (fun (k:Int) (h1:1≤k) (h2:k≤12) (W:World)=>j5g y k y0 h1 h2 W);obtain⟨mn,rfl⟩:∃ mn:Nat,m=((mn + 1:Nat):Int):=⟨(m - 1).toNat,by omega⟩;have HD2:Hid (out=Fd.q8r mn y (a - 719528 + d - 1)):=by
  show _=_;rw[HD.out,show (((mn + 1:Nat):Int) - 1).toNat=mn by omega]
 clear h70 HD;go_enter func170,ntmps170;go_wp2_with fail;refine(HA.out _).mono ?_;rintro e wx ⟨rfl,hwx⟩;subst wx;go_wp2_with fail;refine(HA70.out _).mono ?_;rintro e wx ⟨rfl,hwx⟩;subst wx;go_wp2_with fail
 go_loopw [7,8] (fun n k wr=>∃ (j:Nat) (nn:Int),j≤mn∧k=.int .i64 ((j:Int) + 1)∧n=.int .i64 nn∧-719528≤nn∧Hid (nn≤35880503 + 31 * j)∧Hid (nn=Fd.q8r j y (a - 719528 + d - 1))∧Hid (Below w.heap.size w wr)) (fun _ k _=>mn + 1 - (intOf k).toNat)
 case atStart=>exact⟨0,a - 719528 + d - 1,Nat.zero_le _,rfl,rfl,by omega,by show _≤_;omega,rfl,Below.refl _ _⟩
 case round =>
  obtain⟨j,nn,hj,rfl,rfl,h1,HB,HN,BL⟩:=hrel;have h2:nn≤36000000:=by have:=HB.out;omega
  by_cases hlt:j < mn
  ·have hl:=Fd.j6b y ((j:Int) + 1)
   have HLJ:=Ld (HLG.out ((j:Int) + 1) (by omega) (by omega));have HNX:Hid (Fd.q8r (j + 1) y (a - 719528 + d - 1)=Fd.q8r j y (a - 719528 + d - 1) + Fd.long y ((j:Int) + 1)):=rfl;generalize Fd.long y ((j:Int) + 1)=L at hl HLJ HNX;obtain⟨l1,l2⟩:=hl;go_wp2_with fail;refine(HLJ.out _).mono ?_;rintro e w1 ⟨rfl,hb1⟩;have B1:=Ld (BL.out.trans (hb1.mono BL.out.size));clear hb1;go_wp2_with fail;go_roundw
   case rel=>exact⟨j + 1,nn + L,by omega,by go_num,by go_num,by omega,by show _≤_;have:=HB.out;omega,by show _=_;rw[HNX.out,HN.out],B1⟩
   case measure=>simp[intOf];omega
  ·have hje:j=mn:=by omega
   have HE:Hid (out=nn):=by show _=_;rw[HD2.out,HN.out,hje]
   clear hje;go_wp2_with fail;go_ret;exact⟨by rw[HE.out];rfl,BL.out,by rw[HE.out];omega,by rw[HE.out];omega⟩
theorem q4b (y m d clock zone:Int) (y0:0≤y) (y1:y≤99999) (m0:0≤m) (m1:m≤99999) (d0:0≤d) (d1:d≤99999) (c0:0≤clock) (c1:clock≤400000000) (z0 : -400000000≤zone) (z1:zone≤400000000) (r:Fd.Dr) (R:Nat) (w:World) (h:DrS w R r) :
  Calls prog 106 #[.pointer (some ⟨R,0,none⟩),.int .i64 y,.int .i64 m,.int .i64 d,.int .i64 clock,.int .i64 zone] w fun e w'=>e=.returned (.tuple #[.int .i64 (Fd.z7j y m d clock zone r).1,.int .i64 (Fd.z7j y m d clock zone r).2])∧Below w.heap.size w w':=by
 have hst:∀ l:List UInt8,(st l).toList=l:=fun l=>Lib.toList_data _
 have HT:Hid (Fd.z7j y m d clock zone r=if r.short=true∨r.s ≠ [] then (0,1) else if m < 1∨12 < m∨d < 1∨Fd.long y m < d then (0,3) else if 86400 * Fd.z95 y m d + clock - zone < 0∨4102444799 < 86400 * Fd.z95 y m d + clock - zone then (0,3) else (86400 * Fd.z95 y m d + clock - zone,0)):=rfl;generalize Fd.z7j y m d clock zone r=out at HT ⊢;obtain⟨s,sh⟩:=r;simp only at HT;have k0:w.cell? ⟨R,0,none⟩=some (.string (st s)):=Blk.cell h 0;have k1:w.cell? ⟨R,1,none⟩=some (.bool sh):=Blk.cell h 1;clear h
 cases sh with
 | true =>
  have HE:Hid (out=(0,1)):=by show _=_;rw[HT.out,if_pos (.inl rfl)]
  clear HT;go_enter func106,ntmps106;go_wp2_with fail;go_ret2;exact⟨by rw[HE.out];rfl,Below.refl _ _⟩
 | false =>
  rcases z3c s with ⟨e1,e2⟩ | ⟨e1,e2⟩
  ·rw[if_neg (by rintro (q | q);cases q;exact q e1)] at HT
   clear e1
   by_cases q1:m < 1∨12 < m∨d < 1
   ·have HE:Hid (out=(0,3)):=by show _=_;rw[HT.out,if_pos (by omega)]
    clear HT
    rcases q1 with q1 | q1
    ·go_enter func106,ntmps106
     go_wp2_with fail;go_ret2;exact⟨by rw[HE.out];rfl,Below.refl _ _⟩
    ·by_cases q2:m < 1
     ·go_enter func106,ntmps106
      go_wp2_with fail;go_ret2;exact⟨by rw[HE.out];rfl,Below.refl _ _⟩
     ·rcases q1 with q1 | q1
      ·go_enter func106,ntmps106
       go_wp2_with fail;go_ret2;exact⟨by rw[HE.out];rfl,Below.refl _ _⟩
      ·by_cases q3:12 < m
       ·go_enter func106,ntmps106
        go_wp2_with fail;go_ret2;exact⟨by rw[HE.out];rfl,Below.refl _ _⟩
       ·go_enter func106,ntmps106
        go_wp2_with fail;go_ret2;exact⟨by rw[HE.out];rfl,Below.refl _ _⟩
   ·have r1:¬ m < 1:=by omega
    have r2:¬ 12 < m:=by omega
    have r3:¬ d < 1:=by omega
    have hl:=Fd.j6b y m;have HLG:=Ld (fun W=>j5g y m y0 (by omega) (by omega) W)
    by_cases q4:Fd.long y m < d
    ·have HE:Hid (out=(0,3)):=by show _=_;rw[HT.out,if_pos (.inr (.inr (.inr q4)))]
     clear HT q1;generalize Fd.long y m=L at hl HLG q4;go_enter func106,ntmps106;go_wp2_with fail;refine(HLG.out _).mono ?_;rintro e w1 ⟨rfl,hb1⟩;have B1:=Ld hb1;clear hb1;go_wp2_with fail;go_ret2;exact⟨by rw[HE.out];rfl,B1.out⟩
    ·rw[if_neg (by rintro (q | q | q | q) <;> omega)] at HT
     have HDY:=Ld (fun W=>dt_days y m d y0 y1 (by omega) (by omega) (by omega) (by omega) W);generalize Fd.long y m=L at hl HLG q4;generalize Fd.z95 y m d=D at HDY HT;clear q1
     by_cases q5:86400 * D + clock - zone < 0∨4102444799 < 86400 * D + clock - zone
     ·have HE:Hid (out=(0,3)):=by show _=_;rw[HT.out,if_pos q5]
      clear HT;go_enter func106,ntmps106;go_wp2_with fail;refine(HLG.out _).mono ?_;rintro e w1 ⟨rfl,hb1⟩;have B1:=Ld hb1;clear hb1;go_wp2_with fail;refine(HDY.out _).mono ?_;rintro e w2 ⟨rfl,hb2,g1,g2⟩;have B2:=Ld (B1.out.trans (hb2.mono B1.out.size));clear hb2
      rcases q5 with q5 | q5
      ·go_wp2_with fail
       go_ret2;exact⟨by rw[HE.out];rfl,B2.out⟩
      ·have q6:¬ 86400 * D + clock - zone < 0:=by omega
       go_wp2_with fail;go_ret2;exact⟨by rw[HE.out];rfl,B2.out⟩
     ·have HE:Hid (out=(86400 * D + clock - zone,0)):=by show _=_;rw[HT.out,if_neg q5]
      have q6:¬ 86400 * D + clock - zone < 0:=by omega
      have q7:¬ 4102444799 < 86400 * D + clock - zone:=by omega
      clear HT q5;go_enter func106,ntmps106;go_wp2_with fail;refine(HLG.out _).mono ?_;rintro e w1 ⟨rfl,hb1⟩;have B1:=Ld hb1;clear hb1;go_wp2_with fail;refine(HDY.out _).mono ?_;rintro e w2 ⟨rfl,hb2,g1,g2⟩;have B2:=Ld (B1.out.trans (hb2.mono B1.out.size));clear hb2;go_wp2_with fail;go_ret2;exact⟨by rw[HE.out];rfl,B2.out⟩
  ·have HE:Hid (out=(0,1)):=by show _=_;rw[HT.out,if_pos (.inr e1)]
   clear HT e1;go_enter func106,ntmps106;go_wp2_with fail;go_ret2;exact⟨by rw[HE.out];rfl,Below.refl _ _⟩
theorem q4c (r:Fd.Dr) (R:Nat) (w:World) (h:DrS w R r) :
  Calls prog 107 #[.pointer (some ⟨R,0,none⟩),.string (st [58])] w fun e w'=>e=.returned (.int .i64 (Fd.z2u [58] r).1)∧DrS w' R (Fd.z2u [58] r).2∧Ap (fun b=>b=R) w w'∧-400000000≤(Fd.z2u [58] r).1∧(Fd.z2u [58] r).1≤400000000:=by
 have hst:∀ l:List UInt8,(st l).toList=l:=fun l=>Lib.toList_data _
 have HH:=Ld (fun (W:World) (rr:Fd.Dr) (hW:DrS W R rr)=>z1g 2 23 rr R W hW (by decide));have HM:=Ld (fun (W:World) (rr:Fd.Dr) (hW:DrS W R rr)=>z1g 2 59 rr R W hW (by decide));have HS:=Ld (fun (W:World) (rr:Fd.Dr) (hW:DrS W R rr)=>z1t [58] rr R W hW (by decide));have K1:=Ld (z1t [43,45] r R w h (by decide));have HC:Hid (Fd.z2u [58] r=((if (Fd.Q9 [43,45] r).1=45 then -1 else 1) * (3600 * (Fd.Y0 2 23 (Fd.Q9 [43,45] r).2).1 + 60 * (Fd.Y0 2 59 (Fd.Q9 [58] (Fd.Y0 2 23 (Fd.Q9 [43,45] r).2).2).2).1),(Fd.Y0 2 59 (Fd.Q9 [58] (Fd.Y0 2 23 (Fd.Q9 [43,45] r).2).2).2).2)):=rfl;generalize Fd.z2u [58] r=out at HC ⊢;generalize Fd.Q9 [43,45] r=x1 at K1 HC;clear h;obtain⟨c,b1⟩:=x1;simp only at K1 HC;go_enter func107,ntmps107;go_wp2_with fail;refine K1.out.mono ?_;rintro e w1 ⟨rfl,hd1,ha1⟩;have DR1:=Ld hd1;have AP1:=Ld ha1;clear hd1 ha1 K1;have K2:=Ld (HH.out w1 _ DR1.out);generalize Fd.Y0 2 23 b1=x2 at K2 HC;obtain⟨a2,b2⟩:=x2;simp only at K2 HC
 by_cases h45:c=45
 ·have e1:((c.toNat:Int) == 45)=true:=by rw[h45];rfl
  rw[if_pos h45] at HC;clear h45;go_wp2_with fail;refine K2.out.mono ?_;rintro e w2 ⟨rfl,hd2,ha2,p1,p2⟩;have DR2:=Ld hd2;have AP2:=Ld (AP1.out.trans ha2);clear hd2 ha2 K2;have K3:=Ld (HS.out w2 _ DR2.out);generalize Fd.Q9 [58] b2=x3 at K3 HC;go_wp2_with fail;refine K3.out.mono ?_;rintro e w3 ⟨rfl,hd3,ha3⟩;have DR3:=Ld hd3;have AP3:=Ld (AP2.out.trans ha3);clear hd3 ha3 K3;have K4:=Ld (HM.out w3 _ DR3.out);generalize Fd.Y0 2 59 x3.2=x4 at K4 HC;obtain⟨a4,b4⟩:=x4;simp only at K4 HC;go_wp2_with fail;refine K4.out.mono ?_;rintro e w4 ⟨rfl,hd4,ha4,p3,p4⟩;have DR4:=Ld hd4;have AP4:=Ld (AP3.out.trans ha4);clear hd4 ha4 K4;go_wp2_with fail;go_ret;exact⟨by rw[HC.out];first | rfl | (show Ending.returned (.int .i64 _)=.returned (.int .i64 _);congr 2;omega),by rw[HC.out];exact DR4.out,AP4.out,by rw[HC.out];show _≤(-1) * (3600 * a2 + 60 * a4);omega,by rw[HC.out];show (-1) * (3600 * a2 + 60 * a4)≤_;omega⟩
 ·have e1:((c.toNat:Int) == 45)=false:=by rw[beq_eq_false_iff_ne];intro q;exact h45 (UInt8.toNat_inj.1 (by show c.toNat=45;omega))
  rw[if_neg h45] at HC;clear h45;go_wp2_with fail;refine K2.out.mono ?_;rintro e w2 ⟨rfl,hd2,ha2,p1,p2⟩;have DR2:=Ld hd2;have AP2:=Ld (AP1.out.trans ha2);clear hd2 ha2 K2;have K3:=Ld (HS.out w2 _ DR2.out);generalize Fd.Q9 [58] b2=x3 at K3 HC;go_wp2_with fail;refine K3.out.mono ?_;rintro e w3 ⟨rfl,hd3,ha3⟩;have DR3:=Ld hd3;have AP3:=Ld (AP2.out.trans ha3);clear hd3 ha3 K3;have K4:=Ld (HM.out w3 _ DR3.out);generalize Fd.Y0 2 59 x3.2=x4 at K4 HC;obtain⟨a4,b4⟩:=x4;simp only at K4 HC;go_wp2_with fail;refine K4.out.mono ?_;rintro e w4 ⟨rfl,hd4,ha4,p3,p4⟩;have DR4:=Ld hd4;have AP4:=Ld (AP3.out.trans ha4);clear hd4 ha4 K4;go_wp2_with fail;go_ret;exact⟨by rw[HC.out];first | rfl | (show Ending.returned (.int .i64 _)=.returned (.int .i64 _);congr 2;omega),by rw[HC.out];exact DR4.out,AP4.out,by rw[HC.out];show _≤1 * (3600 * a2 + 60 * a4);omega,by rw[HC.out];show 1 * (3600 * a2 + 60 * a4)≤_;omega⟩
theorem q5x (r:Fd.Dr) (R:Nat) (w:World) (h:DrS w R r) :
  Calls prog 107 #[.pointer (some ⟨R,0,none⟩),.string (st [])] w fun e w'=>e=.returned (.int .i64 (Fd.z2u [] r).1)∧DrS w' R (Fd.z2u [] r).2∧Ap (fun b=>b=R) w w'∧-400000000≤(Fd.z2u [] r).1∧(Fd.z2u [] r).1≤400000000:=by
 have hst:∀ l:List UInt8,(st l).toList=l:=fun l=>Lib.toList_data _
 have HH:=Ld (fun (W:World) (rr:Fd.Dr) (hW:DrS W R rr)=>z1g 2 23 rr R W hW (by decide));have HM:=Ld (fun (W:World) (rr:Fd.Dr) (hW:DrS W R rr)=>z1g 2 59 rr R W hW (by decide));have HS:=Ld (fun (W:World) (rr:Fd.Dr) (hW:DrS W R rr)=>z1t [58] rr R W hW (by decide));have K1:=Ld (z1t [43,45] r R w h (by decide));have HC:Hid (Fd.z2u [] r=((if (Fd.Q9 [43,45] r).1=45 then -1 else 1) * (3600 * (Fd.Y0 2 23 (Fd.Q9 [43,45] r).2).1 + 60 * (Fd.Y0 2 59 (Fd.Y0 2 23 (Fd.Q9 [43,45] r).2).2).1),(Fd.Y0 2 59 (Fd.Y0 2 23 (Fd.Q9 [43,45] r).2).2).2)):=rfl;generalize Fd.z2u [] r=out at HC ⊢;generalize Fd.Q9 [43,45] r=x1 at K1 HC;clear h;obtain⟨c,b1⟩:=x1;simp only at K1 HC;go_enter func107,ntmps107;go_wp2_with fail;refine K1.out.mono ?_;rintro e w1 ⟨rfl,hd1,ha1⟩;have DR1:=Ld hd1;have AP1:=Ld ha1;clear hd1 ha1 K1;have K2:=Ld (HH.out w1 _ DR1.out);generalize Fd.Y0 2 23 b1=x2 at K2 HC;obtain⟨a2,b2⟩:=x2;simp only at K2 HC
 by_cases h45:c=45
 ·have e1:((c.toNat:Int) == 45)=true:=by rw[h45];rfl
  rw[if_pos h45] at HC;clear h45;go_wp2_with fail;refine K2.out.mono ?_;rintro e w2 ⟨rfl,hd2,ha2,p1,p2⟩;have DR2:=Ld hd2;have AP2:=Ld (AP1.out.trans ha2);clear hd2 ha2 K2;have K4:=Ld (HM.out w2 _ DR2.out);generalize Fd.Y0 2 59 b2=x4 at K4 HC;obtain⟨a4,b4⟩:=x4;simp only at K4 HC;go_wp2_with fail;refine K4.out.mono ?_;rintro e w4 ⟨rfl,hd4,ha4,p3,p4⟩;have DR4:=Ld hd4;have AP4:=Ld (AP2.out.trans ha4);clear hd4 ha4 K4;go_wp2_with fail;go_ret;exact⟨by rw[HC.out];first | rfl | (show Ending.returned (.int .i64 _)=.returned (.int .i64 _);congr 2;omega),by rw[HC.out];exact DR4.out,AP4.out,by rw[HC.out];show _≤(-1) * (3600 * a2 + 60 * a4);omega,by rw[HC.out];show (-1) * (3600 * a2 + 60 * a4)≤_;omega⟩
 ·have e1:((c.toNat:Int) == 45)=false:=by rw[beq_eq_false_iff_ne];intro q;exact h45 (UInt8.toNat_inj.1 (by show c.toNat=45;omega))
  rw[if_neg h45] at HC;clear h45;go_wp2_with fail;refine K2.out.mono ?_;rintro e w2 ⟨rfl,hd2,ha2,p1,p2⟩;have DR2:=Ld hd2;have AP2:=Ld (AP1.out.trans ha2);clear hd2 ha2 K2;have K4:=Ld (HM.out w2 _ DR2.out);generalize Fd.Y0 2 59 b2=x4 at K4 HC;obtain⟨a4,b4⟩:=x4;simp only at K4 HC;go_wp2_with fail;refine K4.out.mono ?_;rintro e w4 ⟨rfl,hd4,ha4,p3,p4⟩;have DR4:=Ld hd4;have AP4:=Ld (AP2.out.trans ha4);clear hd4 ha4 K4;go_wp2_with fail;go_ret;exact⟨by rw[HC.out];first | rfl | (show Ending.returned (.int .i64 _)=.returned (.int .i64 _);congr 2;omega),by rw[HC.out];exact DR4.out,AP4.out,by rw[HC.out];show _≤1 * (3600 * a2 + 60 * a4);omega,by rw[HC.out];show 1 * (3600 * a2 + 60 * a4)≤_;omega⟩
end Go.Proofs.YtjonkbdldebkiaaGreatDoor
namespace Fd
theorem j6a (c:UInt8):z2i c=((decide (97≤(c.toNat:Int)) && decide ((c.toNat:Int)≤122)) || (decide (65≤(c.toNat:Int)) && decide ((c.toNat:Int)≤90))):=by
 have e:∀ a b:UInt8,decide (a≤b)=decide (((a.toNat:Nat):Int)≤(b.toNat:Int)):=by
  intro a b;rw[Bool.eq_iff_iff,decide_eq_true_iff,decide_eq_true_iff,UInt8.le_iff_toNat_le];omega
 unfold z2i;rw[e 97 c,e c 122,e 65 c,e c 90];rfl
theorem three_no (s:Bs) (sh:Bool) (k:Nat) (hk:k < 3) (h:∀ q:k < s.length,z2i s[k]=false):z1w ⟨s,sh⟩=([],⟨[],true⟩):=by
 unfold z1w;rw[if_neg];rintro ⟨h1,h2⟩;have hks:k < s.length:=by simp only at h1;omega
 rw[List.all_eq_true] at h2;have hm:s[k] ∈ s.take 3:=List.mem_take_iff_getElem.2 ⟨k,by omega,rfl⟩;have:=h2 _ hm;rw[h hks] at this
 cases this
end Fd
namespace Go.Proofs.YtjonkbdldebkiaaGreatDoor
open Go.Proofs.Tryz Go.RowKit
theorem q5y (c:UInt8) (w:World) :
  Calls prog 108 #[.int .u8 c.toNat] w fun e w'=>e=.returned (.bool (Fd.z2i c))∧w'=w:=by
 have HL:=Ld (Fd.j6a c);go_enter func108,ntmps108;go_wp2_with fail
 all_goals (go_ret;refine⟨Z8 ?_,rfl⟩;rw[HL.out];first | rfl | (simp[*];done) | (simp[*];omega))
theorem q9e (r:Fd.Dr) (R:Nat) (w:World) (h:DrS w R r) (hs:r.s.length≤1000000) :
  Calls prog 109 #[.pointer (some ⟨R,0,none⟩),.int .i64 3,.func (.func 108) #[] #[]] w fun e w'=>e=.returned (.string (st (Fd.z1w r).1))∧DrS w' R (Fd.z1w r).2∧Ap (fun b=>b=R) w w':=by
 obtain⟨s,sh⟩:=r;simp only at hs;have RB:=Ld h;have c0:w.cell? ⟨R,0,none⟩=some (.string (st s)):=Blk.cell h 0;have c1:w.cell? ⟨R,1,none⟩=some (.bool sh):=Blk.cell h 1;have f0:=Blk.frozen h 0;have f1:=Blk.frozen h 1;clear h;have HNO:=Ld (Fd.three_no s sh);have hss:(st s).size=s.length:=Z4 s;have HSS:=Ld hss;have HST:Hid (∀ W:World,((W.setCell ⟨R,0,none⟩ (.string (st []))).setCell ⟨R,1,none⟩ (.bool true))=((W.setCell ⟨R,0,none⟩ (.string ⟨#[]⟩)).setCell ⟨R,1,none⟩ (.bool true))):=fun _=>rfl
 clear hss;go_enter func109,ntmps109;go_wp2_with fail
 go_loopw [10] (fun i wr=>∃ k:Nat,k≤3∧i=.int .i64 k∧k≤s.length∧Hid ((s.take k).all Fd.z2i=true)∧Hid (w=wr)) (fun i _=>3 - (intOf i).toNat)
 case atStart=>exact⟨0,Nat.zero_le _,rfl,Nat.zero_le _,rfl,by first | exact rfl | exact trivial⟩
 case round =>
  obtain⟨k,hk,rfl,hks,HA,HW⟩:=hrel;have hw:=HW.out;clear HW;subst hw
  by_cases hlt:k < 3
  ·by_cases h1:k < s.length
   ·have s1:k < (st s).size:=by rw[HSS.out];exact h1
    have hget:∀ q:k < (st s).size,(st s)[k]'q=s[k]:=fun _=>rfl
    have HLT:=Ld (q5y s[k] w);have HTK:Hid (s.take (k + 1)=s.take k++[s[k]]):=List.take_succ_eq_append_getElem h1;obtain⟨b,hb⟩:∃ b,Fd.z2i s[k]=b:=⟨_,rfl⟩;rw[hb] at HLT;have HB:=Ld hb;clear hb;go_wp2_with fail;refine HLT.out.mono ?_;rintro e w1 ⟨rfl,hw1⟩;subst w1
    cases b with
    | true =>
     go_wp2_with fail;go_roundw
     case rel=>exact⟨k + 1,by omega,by go_num,by omega,by show _=_;rw[HTK.out,List.all_append,HA.out];simp[HB.out],by first | exact rfl | exact trivial⟩
     case measure=>simp[intOf];omega
    | false =>
     have HE:Hid (Fd.z1w ⟨s,sh⟩=([],⟨[],true⟩)):=HNO.out k hlt (fun q=>HB.out);go_wp2_with fail;go_ret;exact⟨by rw[HE.out];rfl,by rw[HE.out];exact Blk.set_ (Blk.set_ RB.out 0 _) 1 _,((Ap.refl (fun b=>b=R) w).setCell (p:=⟨R,0,none⟩) rfl _).setCell (p:=⟨R,1,none⟩) rfl _⟩
   ·have s1:¬ k < (st s).size:=by rw[HSS.out];exact h1
    have HE:Hid (Fd.z1w ⟨s,sh⟩=([],⟨[],true⟩)):=HNO.out k hlt (fun q=>absurd q h1);go_wp2_with fail;go_ret;exact⟨by rw[HE.out];rfl,by rw[HE.out];exact Blk.set_ (Blk.set_ RB.out 0 _) 1 _,((Ap.refl (fun b=>b=R) w).setCell (p:=⟨R,0,none⟩) rfl _).setCell (p:=⟨R,1,none⟩) rfl _⟩
  ·have hke:k=3:=by omega
   subst hke;have HE:Hid (Fd.z1w ⟨s,sh⟩=(s.take 3,⟨s.drop 3,sh⟩)):=by
    show _=_;unfold Fd.z1w;rw[if_pos ⟨hks,HA.out⟩]
   have s1:3≤(st s).size:=by rw[HSS.out];exact hks
   have hx1:(st s).extract 0 3=st (s.take 3):=by rw[Y1];rfl
   have hx2:(st s).extract 3 (st s).size=st (s.drop 3):=by
    rw[Y1,HSS.out,List.take_of_length_le]
    ·rfl
    ·show (s.drop 3).length≤_;rw[List.length_drop];omega
   go_wp2_with fail;go_ret;exact⟨by rw[HE.out];rfl,by rw[HE.out];exact Blk.set_ RB.out 0 _,(Ap.refl (fun b=>b=R) w).setCell (p:=⟨R,0,none⟩) rfl _⟩
end Go.Proofs.YtjonkbdldebkiaaGreatDoor
namespace Fd
theorem idx_none (x:Bs) (h:∀ j (q:j < z0d.length),z0d[j] ≠ x):z0d.idxOf? x=none:=by
 unfold List.idxOf?;rw[List.findIdx?_eq_none_iff];intro y hy;obtain⟨j,hj,e⟩:=List.mem_iff_getElem.1 hy;rw[beq_eq_false_iff_ne,← e];exact h j hj
theorem z1q (x:Bs) (k:Nat) (hk:k < z0d.length) (h:∀ j (q:j < k) (q2:j < z0d.length),z0d[j] ≠ x) (he:z0d[k]=x):z0d.idxOf? x=some k:=by
 unfold List.idxOf?;rw[List.findIdx?_eq_some_iff_getElem];refine⟨hk,by rw[he];simp,fun j hj=>?_⟩;rw[beq_iff_eq];exact h j hj (by omega)
theorem month_is (r:Dr):z4v r=match z0d.idxOf? (z1w r).1 with
 | none=>(0,⟨(z1w r).2.s,true⟩)
 | some k=>((k:Int) + 1,(z1w r).2):=rfl
end Fd
namespace Go.Proofs.YtjonkbdldebkiaaGreatDoor
open Go.Proofs.Tryz Go.RowKit
theorem dr_month (r:Fd.Dr) (R:Nat) (w:World) (h:DrS w R r) (hs:r.s.length≤1000000) :
  Calls prog 110 #[.pointer (some ⟨R,0,none⟩)] w fun e w'=>e=.returned (.int .i64 (Fd.z4v r).1)∧DrS w' R (Fd.z4v r).2∧Ap (fun b=>b=R) w w'∧0≤(Fd.z4v r).1∧(Fd.z4v r).1≤12:=by
 have hst:∀ l:List UInt8,(st l).toList=l:=fun l=>Lib.toList_data _
 have K1:=Ld (q9e r R w h hs);have HM:=Ld (Fd.month_is r);generalize Fd.z4v r=out at HM ⊢;generalize Fd.z1w r=x1 at K1 HM;obtain⟨x,b1⟩:=x1;simp only at K1 HM;clear h hs;go_enter func110,ntmps110;go_wp2_with fail;refine K1.out.mono ?_;rintro e w1 ⟨rfl,hd1,ha1⟩;have DR:=Ld hd1;have AP:=Ld ha1;clear hd1 ha1 K1;go_wp2_with fail
 go_loopw [4] (fun k wr=>∃ j:Nat,j≤12∧k=.int .i64 ((j:Int) + 1)∧Hid (∀ i (q:i < j) (q2:i < Fd.z0d.length),Fd.z0d[i] ≠ x)∧Hid (w1=wr)) (fun k _=>13 - (intOf k).toNat)
 case atStart=>exact⟨0,Nat.zero_le _,rfl,fun i q=>absurd q (Nat.not_lt_zero _),by first | exact rfl | exact trivial⟩
 case round =>
  obtain⟨j,hj,rfl,HN,HW⟩:=hrel;have hw:=HW.out;clear HW;subst hw
  rcases (by omega:j=0∨j=1∨j=2∨j=3∨j=4∨j=5∨j=6∨j=7∨j=8∨j=9∨j=10∨j=11∨j=12) with e | e | e | e | e | e | e | e | e | e | e | e | e
  ·subst e
   have e1:(⟨#[74,97,110,70,101,98,77,97,114,65,112,114,77,97,121,74,117,110,74,117,108,65,117,103,83,101,112,79,99,116,78,111,118,68,101,99]⟩:ByteArray).extract 0 3=st [74,97,110]:=rfl
   by_cases hx:x=[74,97,110]
   ·have HE:Hid (out=(1,b1)):=by show _=_;rw[HM.out,Fd.z1q x 0 (by decide) HN.out (by rw[hx];rfl)];rfl
    have e2:([74,97,110] == x)=true:=by rw[hx];rfl
    clear hx;go_wp2_with fail;go_ret;exact⟨by rw[HE.out];rfl,by rw[HE.out];exact DR.out,AP.out,by rw[HE.out];exact(by decide:(0:Int)≤1),by rw[HE.out];exact(by decide:(1:Int)≤12)⟩
   ·have HN2:Hid (∀ i (q:i < 1) (q2:i < Fd.z0d.length),Fd.z0d[i] ≠ x):=by
     intro i q q2
     rcases (by omega:i < 0∨i=0) with q3 | q3
     ·exact HN.out i q3 q2
     ·subst q3;exact fun e=>hx e.symm
    have e2:([74,97,110] == x)=false:=beq_eq_false_iff_ne.2 (fun e=>hx e.symm);clear hx;go_wp2_with fail;go_roundw
    case rel=>exact⟨1,by omega,by first | rfl | go_num,HN2,by first | exact rfl | exact trivial⟩
    case measure=>simp[intOf]
  ·subst e
   have e1:(⟨#[74,97,110,70,101,98,77,97,114,65,112,114,77,97,121,74,117,110,74,117,108,65,117,103,83,101,112,79,99,116,78,111,118,68,101,99]⟩:ByteArray).extract 3 6=st [70,101,98]:=rfl
   by_cases hx:x=[70,101,98]
   ·have HE:Hid (out=(2,b1)):=by show _=_;rw[HM.out,Fd.z1q x 1 (by decide) HN.out (by rw[hx];rfl)];rfl
    have e2:([70,101,98] == x)=true:=by rw[hx];rfl
    clear hx;go_wp2_with fail;go_ret;exact⟨by rw[HE.out];rfl,by rw[HE.out];exact DR.out,AP.out,by rw[HE.out];exact(by decide:(0:Int)≤2),by rw[HE.out];exact(by decide:(2:Int)≤12)⟩
   ·have HN2:Hid (∀ i (q:i < 2) (q2:i < Fd.z0d.length),Fd.z0d[i] ≠ x):=by
     intro i q q2
     rcases (by omega:i < 1∨i=1) with q3 | q3
     ·exact HN.out i q3 q2
     ·subst q3;exact fun e=>hx e.symm
    have e2:([70,101,98] == x)=false:=beq_eq_false_iff_ne.2 (fun e=>hx e.symm);clear hx;go_wp2_with fail;go_roundw
    case rel=>exact⟨2,by omega,by first | rfl | go_num,HN2,by first | exact rfl | exact trivial⟩
    case measure=>simp[intOf]
  ·subst e
   have e1:(⟨#[74,97,110,70,101,98,77,97,114,65,112,114,77,97,121,74,117,110,74,117,108,65,117,103,83,101,112,79,99,116,78,111,118,68,101,99]⟩:ByteArray).extract 6 9=st [77,97,114]:=rfl
   by_cases hx:x=[77,97,114]
   ·have HE:Hid (out=(3,b1)):=by show _=_;rw[HM.out,Fd.z1q x 2 (by decide) HN.out (by rw[hx];rfl)];rfl
    have e2:([77,97,114] == x)=true:=by rw[hx];rfl
    clear hx;go_wp2_with fail;go_ret;exact⟨by rw[HE.out];rfl,by rw[HE.out];exact DR.out,AP.out,by rw[HE.out];exact(by decide:(0:Int)≤3),by rw[HE.out];exact(by decide:(3:Int)≤12)⟩
   ·have HN2:Hid (∀ i (q:i < 3) (q2:i < Fd.z0d.length),Fd.z0d[i] ≠ x):=by
     intro i q q2
     rcases (by omega:i < 2∨i=2) with q3 | q3
     ·exact HN.out i q3 q2
     ·subst q3;exact fun e=>hx e.symm
    have e2:([77,97,114] == x)=false:=beq_eq_false_iff_ne.2 (fun e=>hx e.symm);clear hx;go_wp2_with fail;go_roundw
    case rel=>exact⟨3,by omega,by first | rfl | go_num,HN2,by first | exact rfl | exact trivial⟩
    case measure=>simp[intOf]
  ·subst e
   have e1:(⟨#[74,97,110,70,101,98,77,97,114,65,112,114,77,97,121,74,117,110,74,117,108,65,117,103,83,101,112,79,99,116,78,111,118,68,101,99]⟩:ByteArray).extract 9 12=st [65,112,114]:=rfl
   by_cases hx:x=[65,112,114]
   ·have HE:Hid (out=(4,b1)):=by show _=_;rw[HM.out,Fd.z1q x 3 (by decide) HN.out (by rw[hx];rfl)];rfl
    have e2:([65,112,114] == x)=true:=by rw[hx];rfl
    clear hx;go_wp2_with fail;go_ret;exact⟨by rw[HE.out];rfl,by rw[HE.out];exact DR.out,AP.out,by rw[HE.out];exact(by decide:(0:Int)≤4),by rw[HE.out];exact(by decide:(4:Int)≤12)⟩
   ·have HN2:Hid (∀ i (q:i < 4) (q2:i < Fd.z0d.length),Fd.z0d[i] ≠ x):=by
     intro i q q2
     rcases (by omega:i < 3∨i=3) with q3 | q3
     ·exact HN.out i q3 q2
     ·subst q3;exact fun e=>hx e.symm
    have e2:([65,112,114] == x)=false:=beq_eq_false_iff_ne.2 (fun e=>hx e.symm);clear hx;go_wp2_with fail;go_roundw
    case rel=>exact⟨4,by omega,by first | rfl | go_num,HN2,by first | exact rfl | exact trivial⟩
    case measure=>simp[intOf]
  ·subst e
   have e1:(⟨#[74,97,110,70,101,98,77,97,114,65,112,114,77,97,121,74,117,110,74,117,108,65,117,103,83,101,112,79,99,116,78,111,118,68,101,99]⟩:ByteArray).extract 12 15=st [77,97,121]:=rfl
   by_cases hx:x=[77,97,121]
   ·have HE:Hid (out=(5,b1)):=by show _=_;rw[HM.out,Fd.z1q x 4 (by decide) HN.out (by rw[hx];rfl)];rfl
    have e2:([77,97,121] == x)=true:=by rw[hx];rfl
    clear hx;go_wp2_with fail;go_ret;exact⟨by rw[HE.out];rfl,by rw[HE.out];exact DR.out,AP.out,by rw[HE.out];exact(by decide:(0:Int)≤5),by rw[HE.out];exact(by decide:(5:Int)≤12)⟩
   ·have HN2:Hid (∀ i (q:i < 5) (q2:i < Fd.z0d.length),Fd.z0d[i] ≠ x):=by
     intro i q q2
     rcases (by omega:i < 4∨i=4) with q3 | q3
     ·exact HN.out i q3 q2
     ·subst q3;exact fun e=>hx e.symm
    have e2:([77,97,121] == x)=false:=beq_eq_false_iff_ne.2 (fun e=>hx e.symm);clear hx;go_wp2_with fail;go_roundw
    case rel=>exact⟨5,by omega,by first | rfl | go_num,HN2,by first | exact rfl | exact trivial⟩
    case measure=>simp[intOf]
  ·subst e
   have e1:(⟨#[74,97,110,70,101,98,77,97,114,65,112,114,77,97,121,74,117,110,74,117,108,65,117,103,83,101,112,79,99,116,78,111,118,68,101,99]⟩:ByteArray).extract 15 18=st [74,117,110]:=rfl
   by_cases hx:x=[74,117,110]
   ·have HE:Hid (out=(6,b1)):=by show _=_;rw[HM.out,Fd.z1q x 5 (by decide) HN.out (by rw[hx];rfl)];rfl
    have e2:([74,117,110] == x)=true:=by rw[hx];rfl
    clear hx;go_wp2_with fail;go_ret;exact⟨by rw[HE.out];rfl,by rw[HE.out];exact DR.out,AP.out,by rw[HE.out];exact(by decide:(0:Int)≤6),by rw[HE.out];exact(by decide:(6:Int)≤12)⟩
   ·have HN2:Hid (∀ i (q:i < 6) (q2:i < Fd.z0d.length),Fd.z0d[i] ≠ x):=by
     intro i q q2
     rcases (by omega:i < 5∨i=5) with q3 | q3
     ·exact HN.out i q3 q2
     ·subst q3;exact fun e=>hx e.symm
    have e2:([74,117,110] == x)=false:=beq_eq_false_iff_ne.2 (fun e=>hx e.symm);clear hx;go_wp2_with fail;go_roundw
    case rel=>exact⟨6,by omega,by first | rfl | go_num,HN2,by first | exact rfl | exact trivial⟩
    case measure=>simp[intOf]
  ·subst e
   have e1:(⟨#[74,97,110,70,101,98,77,97,114,65,112,114,77,97,121,74,117,110,74,117,108,65,117,103,83,101,112,79,99,116,78,111,118,68,101,99]⟩:ByteArray).extract 18 21=st [74,117,108]:=rfl
   by_cases hx:x=[74,117,108]
   ·have HE:Hid (out=(7,b1)):=by show _=_;rw[HM.out,Fd.z1q x 6 (by decide) HN.out (by rw[hx];rfl)];rfl
    have e2:([74,117,108] == x)=true:=by rw[hx];rfl
    clear hx;go_wp2_with fail;go_ret;exact⟨by rw[HE.out];rfl,by rw[HE.out];exact DR.out,AP.out,by rw[HE.out];exact(by decide:(0:Int)≤7),by rw[HE.out];exact(by decide:(7:Int)≤12)⟩
   ·have HN2:Hid (∀ i (q:i < 7) (q2:i < Fd.z0d.length),Fd.z0d[i] ≠ x):=by
     intro i q q2
     rcases (by omega:i < 6∨i=6) with q3 | q3
     ·exact HN.out i q3 q2
     ·subst q3;exact fun e=>hx e.symm
    have e2:([74,117,108] == x)=false:=beq_eq_false_iff_ne.2 (fun e=>hx e.symm);clear hx;go_wp2_with fail;go_roundw
    case rel=>exact⟨7,by omega,by first | rfl | go_num,HN2,by first | exact rfl | exact trivial⟩
    case measure=>simp[intOf]
  ·subst e
   have e1:(⟨#[74,97,110,70,101,98,77,97,114,65,112,114,77,97,121,74,117,110,74,117,108,65,117,103,83,101,112,79,99,116,78,111,118,68,101,99]⟩:ByteArray).extract 21 24=st [65,117,103]:=rfl
   by_cases hx:x=[65,117,103]
   ·have HE:Hid (out=(8,b1)):=by show _=_;rw[HM.out,Fd.z1q x 7 (by decide) HN.out (by rw[hx];rfl)];rfl
    have e2:([65,117,103] == x)=true:=by rw[hx];rfl
    clear hx;go_wp2_with fail;go_ret;exact⟨by rw[HE.out];rfl,by rw[HE.out];exact DR.out,AP.out,by rw[HE.out];exact(by decide:(0:Int)≤8),by rw[HE.out];exact(by decide:(8:Int)≤12)⟩
   ·have HN2:Hid (∀ i (q:i < 8) (q2:i < Fd.z0d.length),Fd.z0d[i] ≠ x):=by
     intro i q q2
     rcases (by omega:i < 7∨i=7) with q3 | q3
     ·exact HN.out i q3 q2
     ·subst q3;exact fun e=>hx e.symm
    have e2:([65,117,103] == x)=false:=beq_eq_false_iff_ne.2 (fun e=>hx e.symm);clear hx;go_wp2_with fail;go_roundw
    case rel=>exact⟨8,by omega,by first | rfl | go_num,HN2,by first | exact rfl | exact trivial⟩
    case measure=>simp[intOf]
  ·subst e
   have e1:(⟨#[74,97,110,70,101,98,77,97,114,65,112,114,77,97,121,74,117,110,74,117,108,65,117,103,83,101,112,79,99,116,78,111,118,68,101,99]⟩:ByteArray).extract 24 27=st [83,101,112]:=rfl
   by_cases hx:x=[83,101,112]
   ·have HE:Hid (out=(9,b1)):=by show _=_;rw[HM.out,Fd.z1q x 8 (by decide) HN.out (by rw[hx];rfl)];rfl
    have e2:([83,101,112] == x)=true:=by rw[hx];rfl
    clear hx;go_wp2_with fail;go_ret;exact⟨by rw[HE.out];rfl,by rw[HE.out];exact DR.out,AP.out,by rw[HE.out];exact(by decide:(0:Int)≤9),by rw[HE.out];exact(by decide:(9:Int)≤12)⟩
   ·have HN2:Hid (∀ i (q:i < 9) (q2:i < Fd.z0d.length),Fd.z0d[i] ≠ x):=by
     intro i q q2
     rcases (by omega:i < 8∨i=8) with q3 | q3
     ·exact HN.out i q3 q2
     ·subst q3;exact fun e=>hx e.symm
    have e2:([83,101,112] == x)=false:=beq_eq_false_iff_ne.2 (fun e=>hx e.symm);clear hx;go_wp2_with fail;go_roundw
    case rel=>exact⟨9,by omega,by first | rfl | go_num,HN2,by first | exact rfl | exact trivial⟩
    case measure=>simp[intOf]
  ·subst e
   have e1:(⟨#[74,97,110,70,101,98,77,97,114,65,112,114,77,97,121,74,117,110,74,117,108,65,117,103,83,101,112,79,99,116,78,111,118,68,101,99]⟩:ByteArray).extract 27 30=st [79,99,116]:=rfl
   by_cases hx:x=[79,99,116]
   ·have HE:Hid (out=(10,b1)):=by show _=_;rw[HM.out,Fd.z1q x 9 (by decide) HN.out (by rw[hx];rfl)];rfl
    have e2:([79,99,116] == x)=true:=by rw[hx];rfl
    clear hx;go_wp2_with fail;go_ret;exact⟨by rw[HE.out];rfl,by rw[HE.out];exact DR.out,AP.out,by rw[HE.out];exact(by decide:(0:Int)≤10),by rw[HE.out];exact(by decide:(10:Int)≤12)⟩
   ·have HN2:Hid (∀ i (q:i < 10) (q2:i < Fd.z0d.length),Fd.z0d[i] ≠ x):=by
     intro i q q2
     rcases (by omega:i < 9∨i=9) with q3 | q3
     ·exact HN.out i q3 q2
     ·subst q3;exact fun e=>hx e.symm
    have e2:([79,99,116] == x)=false:=beq_eq_false_iff_ne.2 (fun e=>hx e.symm);clear hx;go_wp2_with fail;go_roundw
    case rel=>exact⟨10,by omega,by first | rfl | go_num,HN2,by first | exact rfl | exact trivial⟩
    case measure=>simp[intOf]
  ·subst e
   have e1:(⟨#[74,97,110,70,101,98,77,97,114,65,112,114,77,97,121,74,117,110,74,117,108,65,117,103,83,101,112,79,99,116,78,111,118,68,101,99]⟩:ByteArray).extract 30 33=st [78,111,118]:=rfl
   by_cases hx:x=[78,111,118]
   ·have HE:Hid (out=(11,b1)):=by show _=_;rw[HM.out,Fd.z1q x 10 (by decide) HN.out (by rw[hx];rfl)];rfl
    have e2:([78,111,118] == x)=true:=by rw[hx];rfl
    clear hx;go_wp2_with fail;go_ret;exact⟨by rw[HE.out];rfl,by rw[HE.out];exact DR.out,AP.out,by rw[HE.out];exact(by decide:(0:Int)≤11),by rw[HE.out];exact(by decide:(11:Int)≤12)⟩
   ·have HN2:Hid (∀ i (q:i < 11) (q2:i < Fd.z0d.length),Fd.z0d[i] ≠ x):=by
     intro i q q2
     rcases (by omega:i < 10∨i=10) with q3 | q3
     ·exact HN.out i q3 q2
     ·subst q3;exact fun e=>hx e.symm
    have e2:([78,111,118] == x)=false:=beq_eq_false_iff_ne.2 (fun e=>hx e.symm);clear hx;go_wp2_with fail;go_roundw
    case rel=>exact⟨11,by omega,by first | rfl | go_num,HN2,by first | exact rfl | exact trivial⟩
    case measure=>simp[intOf]
  ·subst e
   have e1:(⟨#[74,97,110,70,101,98,77,97,114,65,112,114,77,97,121,74,117,110,74,117,108,65,117,103,83,101,112,79,99,116,78,111,118,68,101,99]⟩:ByteArray).extract 33 36=st [68,101,99]:=rfl
   by_cases hx:x=[68,101,99]
   ·have HE:Hid (out=(12,b1)):=by show _=_;rw[HM.out,Fd.z1q x 11 (by decide) HN.out (by rw[hx];rfl)];rfl
    have e2:([68,101,99] == x)=true:=by rw[hx];rfl
    clear hx;go_wp2_with fail;go_ret;exact⟨by rw[HE.out];rfl,by rw[HE.out];exact DR.out,AP.out,by rw[HE.out];exact(by decide:(0:Int)≤12),by rw[HE.out];exact(by decide:(12:Int)≤12)⟩
   ·have HN2:Hid (∀ i (q:i < 12) (q2:i < Fd.z0d.length),Fd.z0d[i] ≠ x):=by
     intro i q q2
     rcases (by omega:i < 11∨i=11) with q3 | q3
     ·exact HN.out i q3 q2
     ·subst q3;exact fun e=>hx e.symm
    have e2:([68,101,99] == x)=false:=beq_eq_false_iff_ne.2 (fun e=>hx e.symm);clear hx;go_wp2_with fail;go_roundw
    case rel=>exact⟨12,by omega,by first | rfl | go_num,HN2,by first | exact rfl | exact trivial⟩
    case measure=>simp[intOf]
  ·subst e
   have HE:Hid (out=(0,⟨b1.s,true⟩)):=by show _=_;rw[HM.out,Fd.idx_none x (fun i q=>HN.out i (by have:Fd.z0d.length=12:=rfl;omega) q)]
   have c1:w1.cell? ⟨R,1,none⟩=some (.bool b1.short):=Blk.cell DR.out 1;have f1:w1.frozen? ⟨R,1,none⟩=false:=Blk.frozen DR.out 1;go_wp2_with fail;go_ret;exact⟨by rw[HE.out];rfl,by rw[HE.out];exact Blk.set_ DR.out 1 _,AP.out.setCell (p:=⟨R,1,none⟩) rfl _,by rw[HE.out];exact(by decide:(0:Int)≤0),by rw[HE.out];exact(by decide:(0:Int)≤12)⟩
end Go.Proofs.YtjonkbdldebkiaaGreatDoor
namespace Fd
theorem z7d (of:Bs) (r:Dr):(Q9 of r).2.s.length≤r.s.length:=by
 obtain⟨s,sh⟩:=r
 cases s with
 | nil=>exact Lr
 | cons c t =>
  show (if of.contains c then (c,(⟨t,sh⟩:Dr)) else (0,⟨[],true⟩)).2.s.length≤(c :: t).length
  split
  ·exact Nat.le_succ _
  ·exact Nat.zero_le _
theorem j4y:∀ (k:Nat) (n:Int) (r:Dr),(digD k n r).2.s.length≤r.s.length
 | 0,_,_=>Lr
 | k + 1,n,r=>Nat.le_trans (j4y k _ _) (z7d tenD r)
theorem j1r (k:Nat) (m:Int) (r:Dr):(Y0 k m r).2.s.length≤r.s.length:=j4y k 0 r
theorem j7o (r:Dr):(z1w r).2.s.length≤r.s.length:=by
 unfold z1w
 split
 ·show (r.s.drop 3).length≤_;rw[List.length_drop];omega
 ·exact Nat.zero_le _
def webE (y m d c:Int × Dr):Int × Int :=
 if c.2.s=[90] then z7j y.1 m.1 d.1 c.1 0 ⟨[],c.2.short⟩ else z7j y.1 m.1 d.1 c.1 (z2u [58] c.2).1 (z2u [58] c.2).2
theorem webE_is (y m d c:Int × Dr):webE y m d c=if c.2.s=[90] then z7j y.1 m.1 d.1 c.1 0 ⟨[],c.2.short⟩ else z7j y.1 m.1 d.1 c.1 (z2u [58] c.2).1 (z2u [58] c.2).2:=rfl
def mailE (y m d c:Int × Dr) (z:Dr):Int × Int :=
 if z.s=[71,77,84]∨z.s=[85,84] then z7j y.1 m.1 d.1 c.1 0 ⟨[],z.short⟩ else z7j y.1 m.1 d.1 c.1 (z2u [] z).1 (z2u [] z).2
def q1a (s:Bs):Dr:=match s with
 | []=>⟨s,false⟩
 | c :: _=>if z2i c then (Q9 [32] (Q9 [44] (z1w ⟨s,false⟩).2).2).2 else ⟨s,false⟩
def manyD (r:Dr):Nat:=match r.s with
 | _ :: c :: _=>if c=32 then 1 else 2
 | _=>1
def mailF (b:Dr) (many:Nat):Int × Int :=
 let d:=Y0 many 99 b
 let m:=z4v (Q9 [32] d.2).2
 let y:=Y0 4 9999 (Q9 [32] m.2).2
 let c:=z4d (Q9 [32] y.2).2
 mailE y m d c (Q9 [32] c.2).2
theorem mail_is (s:Bs):q6e s=mailF (q1a s) (manyD (q1a s)):=by
 cases s <;> rfl
end Fd
namespace Go.Proofs.YtjonkbdldebkiaaGreatDoor
open Go.Proofs.Tryz Go.RowKit
theorem dt_Web (s:List UInt8) (w:World) :
  Calls prog 59 #[.string (st s)] w fun e w'=>e=.returned (.tuple #[.int .i64 (Fd.webD s).1,.int .i64 (Fd.webD s).2])∧Below w.heap.size w w':=by
 have hst:∀ l:List UInt8,(st l).toList=l:=fun l=>Lib.toList_data _
 have HC:Hid (Fd.webD s=Fd.webE (Fd.Y0 4 9999 ⟨s,false⟩) (Fd.Y0 2 99 (Fd.Q9 [45] (Fd.Y0 4 9999 ⟨s,false⟩).2).2) (Fd.Y0 2 99 (Fd.Q9 [45] (Fd.Y0 2 99 (Fd.Q9 [45] (Fd.Y0 4 9999 ⟨s,false⟩).2).2).2).2) (Fd.z4d (Fd.Q9 [84] (Fd.Y0 2 99 (Fd.Q9 [45] (Fd.Y0 2 99 (Fd.Q9 [45] (Fd.Y0 4 9999 ⟨s,false⟩).2).2).2).2).2).2)):=rfl;generalize Fd.webD s=out at HC ⊢;have DR0:Hid (DrS (w.alloc (.cells #[.string (st s),.bool false] 160)) w.heap.size ⟨s,false⟩):=Blk.new w 160 #[.string (st s),.bool false];have BL0:=Ld ((Below.refl w.heap.size w).alloc (Lr) (.cells #[.string (st s),.bool false] 160));go_enter func59,ntmps59;go_upto_region 2 with fail;generalize (w.alloc (.cells #[.string (st s),.bool false] 160))=w0 at DR0 BL0 ⊢;have AP0:Hid (Ap (fun b=>b=w.heap.size) w0 w0):=Ap.refl _ _;have K1:=Ld (z1g 4 9999 ⟨s,false⟩ w.heap.size w0 DR0.out (by decide));generalize (Fd.Y0 4 9999 ⟨s,false⟩)=x1 at K1 HC;obtain⟨a1,b1⟩:=x1;simp only at K1 HC;go_wp2_with fail;refine K1.out.mono ?_;rintro e w1 ⟨rfl,hd,ha,p1a,p1b⟩;have DR1:=Ld hd;have AP1:=Ld (AP0.out.trans ha);clear hd ha K1 DR0 AP0;have K2:=Ld (z1t [45] b1 w.heap.size w1 DR1.out (by decide));generalize Fd.Q9 [45] b1=x2 at K2 HC;obtain⟨g2,b2⟩:=x2;simp only at K2 HC;go_wp2_with fail;refine K2.out.mono ?_;rintro e w2 ⟨rfl,hd,ha⟩;have DR2:=Ld hd;have AP2:=Ld (AP1.out.trans ha);clear hd ha K2 DR1 AP1;have K3:=Ld (z1g 2 99 b2 w.heap.size w2 DR2.out (by decide));generalize Fd.Y0 2 99 b2=x3 at K3 HC;obtain⟨a3,b3⟩:=x3;simp only at K3 HC;go_wp2_with fail;refine K3.out.mono ?_;rintro e w3 ⟨rfl,hd,ha,p3a,p3b⟩;have DR3:=Ld hd;have AP3:=Ld (AP2.out.trans ha);clear hd ha K3 DR2 AP2;have K4:=Ld (z1t [45] b3 w.heap.size w3 DR3.out (by decide));generalize Fd.Q9 [45] b3=x4 at K4 HC;obtain⟨g4,b4⟩:=x4;simp only at K4 HC;go_wp2_with fail;refine K4.out.mono ?_;rintro e w4 ⟨rfl,hd,ha⟩;have DR4:=Ld hd;have AP4:=Ld (AP3.out.trans ha);clear hd ha K4 DR3 AP3;have K5:=Ld (z1g 2 99 b4 w.heap.size w4 DR4.out (by decide));generalize Fd.Y0 2 99 b4=x5 at K5 HC;obtain⟨a5,b5⟩:=x5;simp only at K5 HC;go_wp2_with fail;refine K5.out.mono ?_;rintro e w5 ⟨rfl,hd,ha,p5a,p5b⟩;have DR5:=Ld hd;have AP5:=Ld (AP4.out.trans ha);clear hd ha K5 DR4 AP4;have K6:=Ld (z1t [84] b5 w.heap.size w5 DR5.out (by decide));generalize Fd.Q9 [84] b5=x6 at K6 HC;obtain⟨g6,b6⟩:=x6;simp only at K6 HC;go_wp2_with fail;refine K6.out.mono ?_;rintro e w6 ⟨rfl,hd,ha⟩;have DR6:=Ld hd;have AP6:=Ld (AP5.out.trans ha);clear hd ha K6 DR5 AP5;have K7:=Ld (q9d b6 w.heap.size w6 DR6.out);generalize Fd.z4d b6=x7 at K7 HC;obtain⟨a7,b7⟩:=x7;simp only at K7 HC;go_wp2_with fail;refine K7.out.mono ?_;rintro e w7 ⟨rfl,hd,ha,p7a,p7b⟩;have DR7:=Ld hd;have AP7:=Ld (AP6.out.trans ha);clear hd ha K7 DR6 AP6;rw[Fd.webE_is] at HC;simp only at HC;have BL7:=Ld (BL0.out.trans (AP7.out.below BL0.out.size (fun k q e=>by have e:k=w.heap.size:=e;omega)));have k0:w7.cell? ⟨w.heap.size,0,none⟩=some (.string (st b7.s)):=Blk.cell DR7.out 0;have f0:w7.frozen? ⟨w.heap.size,0,none⟩=false:=Blk.frozen DR7.out 0
 by_cases hz:b7.s=[90]
 ·have e1:(b7.s == [90])=true:=beq_iff_eq.2 hz
  rw[if_pos hz] at HC;clear hz;have DZ:Hid (DrS (w7.setCell ⟨w.heap.size,0,none⟩ (.string (st []))) w.heap.size ⟨[],b7.short⟩):=Blk.set_ DR7.out 0 _;have BZ:=Ld (BL7.out.setCell (p:=⟨w.heap.size,0,none⟩) (Lr) (.string (st [])));have KT:=Ld (q4b a1 a3 a5 a7 0 p1a p1b p3a p3b p5a p5b p7a p7b (by decide) (by decide) ⟨[],b7.short⟩ w.heap.size _ DZ.out);go_wp2_with fail;refine KT.out.mono ?_;rintro e w8 ⟨rfl,hb8⟩;have B8:=Ld (BZ.out.trans (hb8.mono BZ.out.size));clear hb8 KT;go_wp2_with fail;go_ret2;exact⟨by rw[HC.out];rfl,B8.out⟩
 ·have e1:(b7.s == [90])=false:=beq_eq_false_iff_ne.2 hz
  rw[if_neg hz] at HC;clear hz;have K8:=Ld (q4c b7 w.heap.size w7 DR7.out);generalize Fd.z2u [58] b7=x8 at K8 HC;obtain⟨a8,b8⟩:=x8;simp only at K8 HC;go_wp2_with fail;refine K8.out.mono ?_;rintro e w8 ⟨rfl,hd,ha,p8a,p8b⟩;have DR8:=Ld hd;have BL8:=Ld (BL7.out.trans (ha.below BL7.out.size (fun k q e=>by have e:k=w.heap.size:=e;omega)));clear hd ha K8;have KT:=Ld (q4b a1 a3 a5 a7 a8 p1a p1b p3a p3b p5a p5b p7a p7b p8a p8b b8 w.heap.size w8 DR8.out);go_wp2_with fail;refine KT.out.mono ?_;rintro e w9 ⟨rfl,hb9⟩;have B9:=Ld (BL8.out.trans (hb9.mono BL8.out.size));clear hb9 KT;go_wp2_with fail;go_ret2;exact⟨by rw[HC.out];rfl,B9.out⟩
end Go.Proofs.YtjonkbdldebkiaaGreatDoor
namespace Fd
theorem mailF_is (b:Dr) (many:Nat):mailF b many=mailE (Y0 4 9999 (Q9 [32] (z4v (Q9 [32] (Y0 many 99 b).2).2).2).2) (z4v (Q9 [32] (Y0 many 99 b).2).2) (Y0 many 99 b) (z4d (Q9 [32] (Y0 4 9999 (Q9 [32] (z4v (Q9 [32] (Y0 many 99 b).2).2).2).2).2).2) (Q9 [32] (z4d (Q9 [32] (Y0 4 9999 (Q9 [32] (z4v (Q9 [32] (Y0 many 99 b).2).2).2).2).2).2).2).2:=rfl
theorem mailE_is (y m d c:Int × Dr) (z:Dr):mailE y m d c z=if z.s=[71,77,84]∨z.s=[85,84] then z7j y.1 m.1 d.1 c.1 0 ⟨[],z.short⟩ else z7j y.1 m.1 d.1 c.1 (z2u [] z).1 (z2u [] z).2:=rfl
theorem j6e (s:Bs):(q1a s).s.length≤s.length:=by
 cases s with
 | nil=>exact Lr
 | cons c t =>
  show (if z2i c then (Q9 [32] (Q9 [44] (z1w ⟨c :: t,false⟩).2).2).2 else (⟨c :: t,false⟩:Dr)).s.length≤_
  split
  ·exact Nat.le_trans (z7d _ _) (Nat.le_trans (z7d _ _) (j7o _))
  ·exact Lr
theorem many_or (b:Dr):manyD b=1∨manyD b=2:=by
 obtain⟨s,sh⟩:=b
 match s with
 | []=>exact .inl rfl
 | [_]=>exact .inl rfl
 | _ :: c :: _ =>
  show (if c=32 then 1 else 2)=1∨(if c=32 then 1 else 2)=2
  split
  ·exact .inl rfl
  ·exact .inr rfl
end Fd
namespace Go.Proofs.YtjonkbdldebkiaaGreatDoor
open Go.Proofs.Tryz Go.RowKit
theorem dt_Mail (s:List UInt8) (w:World) (hs:s.length≤1000000) :
  Calls prog 60 #[.string (st s)] w fun e w'=>e=.returned (.tuple #[.int .i64 (Fd.q6e s).1,.int .i64 (Fd.q6e s).2])∧Below w.heap.size w w':=by
 have hst:∀ l:List UInt8,(st l).toList=l:=fun l=>Lib.toList_data _
 have HC:=Ld (Fd.mail_is s);have hbl:=Fd.j6e s;have hmn:=Fd.many_or (Fd.q1a s);have H0:Hid (Fd.q1a s=Fd.q1a s):=rfl;generalize Fd.q6e s=out at HC ⊢;have DR0:Hid (DrS (w.alloc (.cells #[.string (st s),.bool false] 160)) w.heap.size ⟨s,false⟩):=Blk.new w 160 #[.string (st s),.bool false];have BL0:=Ld ((Below.refl w.heap.size w).alloc (Lr) (.cells #[.string (st s),.bool false] 160));have HML:Hid (∀ b0,Fd.q1a s=b0→b0.s.length≤1000000):=fun b0 e=>by rw[← e];omega
 go_enter func60,ntmps60;go_upto_region 2 with fail;generalize (w.alloc (.cells #[.string (st s),.bool false] 160))=w0 at DR0 BL0 ⊢
 go_cut [20] (fun b wx=>b=.bool (match s with | []=>false | c :: _=>Fd.z2i c)∧w0=wx)
 case first =>
  cases s with
  | nil =>
   go_wp2_with fail;go_meet
   case rel=>exact⟨rfl,rfl⟩
  | cons c t =>
   have hS0:0 < (st (c :: t)).size:=by rw[Z4];simp
   have hget:∀ q:0 < (st (c :: t)).size,(st (c :: t))[0]'q=c:=fun _=>rfl
   have HL:=Ld (q5y c w0);go_wp2_with fail;refine HL.out.mono ?_;rintro e wx ⟨rfl,hwx⟩;subst wx;go_wp2_with fail;go_meet
   case rel=>exact⟨rfl,rfl⟩
 case rest =>
 as_aux_lemma =>
 obtain⟨rfl,hwx⟩:=hcut;subst hwx;go_upto_if 20 with fail
 go_cut [] (fun wx=>Hid (DrS wx w.heap.size (Fd.q1a s))∧Hid (Below w.heap.size w wx))
 case first =>
  cases s with
  | nil =>
   go_wp2_with fail;go_meet
   case rel=>exact⟨DR0,BL0⟩
  | cons c t =>
   have HE:Hid (Fd.q1a (c :: t)=if Fd.z2i c then (Fd.Q9 [32] (Fd.Q9 [44] (Fd.z1w ⟨c :: t,false⟩).2).2).2 else ⟨c :: t,false⟩):=rfl;obtain⟨b,hb⟩:∃ b,Fd.z2i c=b:=⟨_,rfl⟩;rw[hb] at HE;simp only [hb];clear hb
   cases b with
   | false =>
    go_wp2_with fail;go_meet
    case rel=>exact⟨by rw[HE.out];exact DR0,BL0⟩
   | true =>
    have K1:=Ld (q9e ⟨c :: t,false⟩ w.heap.size w0 DR0.out hs);generalize Fd.z1w ⟨c :: t,false⟩=x1 at K1 HE;go_wp2_with fail;refine K1.out.mono ?_;rintro e w1 ⟨rfl,hd,ha⟩;have DR1:=Ld hd;have BL1:=Ld (BL0.out.trans (ha.below BL0.out.size (fun k q e=>by have e:k=w.heap.size:=e;omega)));clear hd ha K1;have K2:=Ld (z1t [44] x1.2 w.heap.size w1 DR1.out (by decide));generalize Fd.Q9 [44] x1.2=x2 at K2 HE;go_wp2_with fail;refine K2.out.mono ?_;rintro e w2 ⟨rfl,hd,ha⟩;have DR2:=Ld hd;have BL2:=Ld (BL1.out.trans (ha.below BL1.out.size (fun k q e=>by have e:k=w.heap.size:=e;omega)));clear hd ha K2;have K3:=Ld (z1t [32] x2.2 w.heap.size w2 DR2.out (by decide));go_wp2_with fail;refine K3.out.mono ?_;rintro e w3 ⟨rfl,hd,ha⟩;have DR3:Hid (DrS w3 w.heap.size (Fd.q1a (c :: t))):=by rw[HE.out];exact hd
    have BL3:=Ld (BL2.out.trans (ha.below BL2.out.size (fun k q e=>by have e:k=w.heap.size:=e;omega)));clear hd ha K3;go_wp2_with fail;go_meet
    case rel=>exact⟨DR3,BL3⟩
 case rest =>
 as_aux_lemma =>
 obtain⟨DRA,BLA⟩:=hcut;obtain⟨wa,hwa⟩:∃ y,y=wc:=⟨_,rfl⟩;subst hwa;clear DR0 BL0 H0;have HM1:=Ld (HML.out _ rfl);generalize Fd.q1a s=b0 at HC DRA HM1 hmn;clear HML hbl;obtain⟨mm,hmm⟩:∃ m,Fd.manyD b0=m:=⟨_,rfl⟩;have HMM:=Ld hmm;rw[hmm] at HC hmn;clear hmm;obtain⟨s0,sh0⟩:=b0;have k0:wa.cell? ⟨w.heap.size,0,none⟩=some (.string (st s0)):=Blk.cell DRA.out 0;go_upto_region 7 with fail
 go_cut [40] (fun b wx=>b=.bool (decide (mm=2))∧wa=wx)
 case first =>
  cases s0 with
  | nil =>
   have HB:Hid (decide (mm=2)=false):=by show _=_;rw[← HMM.out];rfl
   go_wp2_with fail;go_meet
   case rel=>exact⟨by rw[HB.out],rfl⟩
  | cons c1 t1 =>
   cases t1 with
   | nil =>
    have HB:Hid (decide (mm=2)=false):=by show _=_;rw[← HMM.out];rfl
    have hz:(st [c1]).size=1:=rfl;go_wp2_with fail;go_meet
    case rel=>exact⟨by rw[HB.out],rfl⟩
   | cons c2 t2 =>
    have hS1:1 < (st (c1 :: c2 :: t2)).size:=by rw[Z4];simp
    have hget:∀ q:1 < (st (c1 :: c2 :: t2)).size,(st (c1 :: c2 :: t2))[1]'q=c2:=fun _=>rfl
    by_cases h32:c2=32
    ·have HB:Hid (decide (mm=2)=false):=by show _=_;rw[← HMM.out,h32];rfl
     have e1:((c2.toNat:Int) == 32)=true:=by rw[h32];rfl
     clear h32;go_wp2_with fail;go_meet
     case rel=>exact⟨by rw[HB.out];first | rfl | (rw[bne,e1];rfl),rfl⟩
    ·have HB:Hid (decide (mm=2)=true):=decide_eq_true (HMM.out.symm.trans (by show (if c2=32 then 1 else 2)=2;rw[if_neg h32]))
     have e1:((c2.toNat:Int) == 32)=false:=by rw[beq_eq_false_iff_ne];intro q;exact h32 (UInt8.toNat_inj.1 (by show c2.toNat=32;omega))
     clear h32;go_wp2_with fail;go_meet
     case rel=>exact⟨by rw[HB.out];first | rfl | (rw[bne,e1];rfl),rfl⟩
 case rest =>
 as_aux_lemma =>
 obtain⟨rfl,hwx⟩:=hcut;subst hwx;go_upto_if 40 with fail
 go_cut [5] (fun v wx=>v=.int .i64 (mm:Nat)∧wa=wx)
 case first =>
  have HN:=Ld hmn
  rcases HN.out with e | e
  ·subst e
   go_wp2_with fail;go_meet
   case rel=>exact⟨rfl,rfl⟩
  ·subst e
   go_wp2_with fail;go_meet
   case rel=>exact⟨rfl,rfl⟩
 case rest =>
 as_aux_lemma =>
 obtain⟨rfl,hwx⟩:=hcut;subst hwx;have hm4:mm≤4:=by omega
 rw[Fd.mailF_is] at HC;clear k0 hmn HMM;have AP0:Hid (Ap (fun b=>b=w.heap.size) wa wa):=Ap.refl _ _;have DR0:=DRA;have HL1:=Ld (Nat.le_trans (Fd.j1r mm 99 ⟨s0,sh0⟩) HM1.out);have K1:=Ld (z1g mm 99 ⟨s0,sh0⟩ w.heap.size wa DR0.out hm4);generalize Fd.Y0 mm 99 ⟨s0,sh0⟩=x1 at K1 HC HL1;obtain⟨a1,b1⟩:=x1;simp only at K1 HC HL1;go_wp2_with fail;refine K1.out.mono ?_;rintro e w1 ⟨rfl,hd,ha,p1a,p1b⟩;have DR1:=Ld hd;have AP1:=Ld (AP0.out.trans ha);clear hd ha K1 DR0 AP0;have HL2:=Ld (Nat.le_trans (Fd.z7d [32] b1) HL1.out);have K2:=Ld (z1t [32] b1 w.heap.size w1 DR1.out (by decide));generalize Fd.Q9 [32] b1=x2 at K2 HC HL2;obtain⟨g2,b2⟩:=x2;simp only at K2 HC HL2;go_wp2_with fail;refine K2.out.mono ?_;rintro e w2 ⟨rfl,hd,ha⟩;have DR2:=Ld hd;have AP2:=Ld (AP1.out.trans ha);clear hd ha K2 DR1 AP1;have K3:=Ld (dr_month b2 w.heap.size w2 DR2.out HL2.out);generalize Fd.z4v b2=x3 at K3 HC;obtain⟨a3,b3⟩:=x3;simp only at K3 HC;go_wp2_with fail;refine K3.out.mono ?_;rintro e w3 ⟨rfl,hd,ha,p3a,p3b⟩;have DR3:=Ld hd;have AP3:=Ld (AP2.out.trans ha);clear hd ha K3 DR2 AP2;have K4:=Ld (z1t [32] b3 w.heap.size w3 DR3.out (by decide));generalize Fd.Q9 [32] b3=x4 at K4 HC;obtain⟨g4,b4⟩:=x4;simp only at K4 HC;go_wp2_with fail;refine K4.out.mono ?_;rintro e w4 ⟨rfl,hd,ha⟩;have DR4:=Ld hd;have AP4:=Ld (AP3.out.trans ha);clear hd ha K4 DR3 AP3;have K5:=Ld (z1g 4 9999 b4 w.heap.size w4 DR4.out (by decide));generalize Fd.Y0 4 9999 b4=x5 at K5 HC;obtain⟨a5,b5⟩:=x5;simp only at K5 HC;go_wp2_with fail;refine K5.out.mono ?_;rintro e w5 ⟨rfl,hd,ha,p5a,p5b⟩;have DR5:=Ld hd;have AP5:=Ld (AP4.out.trans ha);clear hd ha K5 DR4 AP4;have K6:=Ld (z1t [32] b5 w.heap.size w5 DR5.out (by decide));generalize Fd.Q9 [32] b5=x6 at K6 HC;obtain⟨g6,b6⟩:=x6;simp only at K6 HC;go_wp2_with fail;refine K6.out.mono ?_;rintro e w6 ⟨rfl,hd,ha⟩;have DR6:=Ld hd;have AP6:=Ld (AP5.out.trans ha);clear hd ha K6 DR5 AP5;have K7:=Ld (q9d b6 w.heap.size w6 DR6.out);generalize Fd.z4d b6=x7 at K7 HC;obtain⟨a7,b7⟩:=x7;simp only at K7 HC;go_wp2_with fail;refine K7.out.mono ?_;rintro e w7 ⟨rfl,hd,ha,p7a,p7b⟩;have DR7:=Ld hd;have AP7:=Ld (AP6.out.trans ha);clear hd ha K7 DR6 AP6;have K8:=Ld (z1t [32] b7 w.heap.size w7 DR7.out (by decide));generalize Fd.Q9 [32] b7=x8 at K8 HC;obtain⟨g8,b8⟩:=x8;simp only at K8 HC;go_wp2_with fail;refine K8.out.mono ?_;rintro e w8 ⟨rfl,hd,ha⟩;have DR8:=Ld hd;have AP8:=Ld (AP7.out.trans ha);clear hd ha K8 DR7 AP7;rw[Fd.mailE_is] at HC;simp only at HC;have BL8:=Ld (BLA.out.trans (AP8.out.below BLA.out.size (fun k q e=>by have e:k=w.heap.size:=e;omega)));have k0:w8.cell? ⟨w.heap.size,0,none⟩=some (.string (st b8.s)):=Blk.cell DR8.out 0;have f0:w8.frozen? ⟨w.heap.size,0,none⟩=false:=Blk.frozen DR8.out 0;obtain⟨s8,sh8⟩:=b8;simp only at HC k0;go_upto_region 17 with fail
 go_cut [69] (fun b wx=>b=.bool (decide (s8=[71,77,84]∨s8=[85,84]))∧w8=wx)
 case first =>
  by_cases h1:s8=[71,77,84]
  ·have HB:Hid (decide (s8=[71,77,84]∨s8=[85,84])=true):=decide_eq_true (.inl h1)
   have e1:(s8 == [71,77,84])=true:=beq_iff_eq.2 h1;clear h1;go_wp2_with fail;go_meet
   case rel=>exact⟨by rw[HB.out],rfl⟩
  ·have e1:(s8 == [71,77,84])=false:=beq_eq_false_iff_ne.2 h1
   by_cases h2:s8=[85,84]
   ·have HB:Hid (decide (s8=[71,77,84]∨s8=[85,84])=true):=decide_eq_true (.inr h2)
    have e2:(s8 == [85,84])=true:=beq_iff_eq.2 h2;clear h1 h2;go_wp2_with fail;go_meet
    case rel=>exact⟨by rw[HB.out],rfl⟩
   ·have HB:Hid (decide (s8=[71,77,84]∨s8=[85,84])=false):=decide_eq_false (by rintro (q | q);exact h1 q;exact h2 q)
    have e2:(s8 == [85,84])=false:=beq_eq_false_iff_ne.2 h2;clear h1 h2;go_wp2_with fail;go_meet
    case rel=>exact⟨by rw[HB.out],rfl⟩
 case rest =>
 as_aux_lemma =>
 obtain⟨rfl,hwx⟩:=hcut;subst hwx
 by_cases hz:s8=[71,77,84]∨s8=[85,84]
 ·rw[if_pos hz] at HC
  rw[decide_eq_true hz];clear hz;have DZ:Hid (DrS (w8.setCell ⟨w.heap.size,0,none⟩ (.string (st []))) w.heap.size ⟨[],sh8⟩):=Blk.set_ DR8.out 0 _;have BZ:=Ld (BL8.out.setCell (p:=⟨w.heap.size,0,none⟩) (Lr) (.string (st [])));have KT:=Ld (q4b a5 a3 a1 a7 0 p5a p5b p3a (by omega) p1a p1b p7a p7b (by decide) (by decide) ⟨[],sh8⟩ w.heap.size _ DZ.out);go_wp2_with fail;refine KT.out.mono ?_;rintro e w9 ⟨rfl,hb9⟩;have B9:=Ld (BZ.out.trans (hb9.mono BZ.out.size));clear hb9 KT;go_wp2_with fail;go_ret2;exact⟨by rw[HC.out];rfl,B9.out⟩
 ·rw[if_neg hz] at HC
  rw[decide_eq_false hz];clear hz;have K9:=Ld (q5x ⟨s8,sh8⟩ w.heap.size w8 DR8.out);generalize Fd.z2u [] ⟨s8,sh8⟩=x9 at K9 HC;obtain⟨a9,b9⟩:=x9;simp only at K9 HC;go_wp2_with fail;refine K9.out.mono ?_;rintro e w9 ⟨rfl,hd,ha,p9a,p9b⟩;have DR9:=Ld hd;have BL9:=Ld (BL8.out.trans (ha.below BL8.out.size (fun k q e=>by have e:k=w.heap.size:=e;omega)));clear hd ha K9;have KT:=Ld (q4b a5 a3 a1 a7 a9 p5a p5b p3a (by omega) p1a p1b p7a p7b p9a p9b b9 w.heap.size w9 DR9.out);go_wp2_with fail;refine KT.out.mono ?_;rintro e w10 ⟨rfl,hb10⟩;have B10:=Ld (BL9.out.trans (hb10.mono BL9.out.size));clear hb10 KT;go_wp2_with fail;go_ret2;exact⟨by rw[HC.out];rfl,B10.out⟩
end Go.Proofs.YtjonkbdldebkiaaGreatDoor
namespace Fd
theorem j3v (c:UInt8):z2s c=true↔((c.toNat:Int)=9∨(c.toNat:Int)=10∨(c.toNat:Int)=13∨(c.toNat:Int)=32):=Mg.z0x (fun c=>z2s c=true↔((c.toNat:Int)=9∨(c.toNat:Int)=10∨(c.toNat:Int)=13∨(c.toNat:Int)=32)) (by decide +kernel) c
def t1B (c:UInt8):Bool:=(97≤c && c≤122) || (65≤c && c≤90) || c == 95
def t2B (c:UInt8):Bool:=(48≤c && c≤57) || c == 45 || c == 46 || c == 58
theorem j7p (f:Bool) (c:UInt8):z2d f c=(t1B c || (!f && t2B c)):=rfl
theorem t1_iff (c:UInt8):t1B c=true↔((97≤(c.toNat:Int)∧(c.toNat:Int)≤122)∨(65≤(c.toNat:Int)∧(c.toNat:Int)≤90)∨(c.toNat:Int)=95):=Mg.z0x (fun c=>t1B c=true↔((97≤(c.toNat:Int)∧(c.toNat:Int)≤122)∨(65≤(c.toNat:Int)∧(c.toNat:Int)≤90)∨(c.toNat:Int)=95)) (by decide +kernel) c
theorem t2_iff (c:UInt8):t2B c=true↔((48≤(c.toNat:Int)∧(c.toNat:Int)≤57)∨(c.toNat:Int)=45∨(c.toNat:Int)=46∨(c.toNat:Int)=58):=Mg.z0x (fun c=>t2B c=true↔((48≤(c.toNat:Int)∧(c.toNat:Int)≤57)∨(c.toNat:Int)=45∨(c.toNat:Int)=46∨(c.toNat:Int)=58)) (by decide +kernel) c
theorem q5e (s:Bs) (k:Nat) (h:k < s.length):z3g (decide (k=0)) (s.drop k)=(z2d (decide (k=0)) s[k] && z3g (decide (k + 1=0)) (s.drop (k + 1))):=by
 rw[List.drop_eq_getElem_cons h];rfl
end Fd
namespace Go.Proofs.YtjonkbdldebkiaaGreatDoor
open Go.Proofs.Tryz Go.RowKit
theorem q5k (c:UInt8) (w:World) :
  Calls prog 226 #[.int .u8 c.toNat] w fun e w'=>e=.returned (.bool (Fd.z2s c))∧w'=w:=by
 have hb:(c.toNat:Int)≤255:=by have:=c.toNat_lt;omega
 go_enter func226,ntmps226;go_wp2_with fail
 all_goals (go_ret;refine⟨Z8 ?_,rfl⟩;rw[Bool.eq_iff_iff,Fd.j3v];simp;try omega)
theorem z4j (c:UInt8) (f:Bool) (w:World) :
  Calls prog 218 #[.int .u8 c.toNat,.bool f] w fun e w'=>e=.returned (.bool (Fd.z2d f c))∧w'=w:=by
 have HL:=Ld (Fd.j7p f c);have hb9:(c.toNat:Int)≤255:=by have:=c.toNat_lt;omega
 generalize Fd.z2d f c=out at HL ⊢;have walk:∀ b:Bool,Fd.t1B c=b →
   Calls prog 218 #[.int .u8 c.toNat,.bool f] w fun e w'=>e=.returned (.bool out)∧w'=w:=by
  intro b hb;rw[hb] at HL;have HB:=Ld hb;clear hb;go_enter func218,ntmps218;go_upto_region 1 with fail
  go_cut [22] (fun v wx=>v=.bool b∧w=wx)
  case first =>
   go_wp2_with fail
   all_goals
    go_meet
    case rel=>exact⟨by rw[← HB.out];congr 1;rw[Bool.eq_iff_iff,Fd.t1_iff];simp;try omega,rfl⟩
  case rest =>
  as_aux_lemma =>
  obtain⟨rfl,hwx⟩:=hcut;subst hwx
  cases b with
  | true =>
   have HE:Hid (out=true):=by show _=_;rw[HL.out];rfl
   go_wp2_with fail;go_ret;exact⟨Z8 HE.out.symm,rfl⟩
  | false =>
   cases f with
   | true =>
    have HE:Hid (out=false):=by show _=_;rw[HL.out];rfl
    go_wp2_with fail;go_ret;exact⟨Z8 HE.out.symm,rfl⟩
   | false =>
    go_wp2_with fail
    all_goals (go_ret;refine⟨Z8 ?_,rfl⟩;rw[HL.out,Bool.not_false,Bool.true_and,Bool.false_or,Bool.eq_iff_iff,Fd.t2_iff];simp;try omega)
 exact walk _ rfl
theorem j0j (s:List UInt8) (w:World) (hs:s.length≤2000000) :
  Calls prog 167 #[.string (st s)] w fun e w'=>e=.returned (.bool (Fd.z0b s))∧w'=w:=by
 have hst:∀ l:List UInt8,(st l).toList=l:=fun l=>Lib.toList_data _
 have HT:Hid (Fd.z0b s=(Fd.z3g true s && decide (s ≠ []) && decide (s.length≤20))):=rfl;have hz:(st s).size=s.length:=Z4 s;have HZ:=Ld hz;clear hz;go_enter func167,ntmps167;go_wp2_with fail
 go_loopw [6] (fun i wr=>∃ k:Nat,k≤s.length∧i=.int .i64 k∧Hid (Fd.z3g true s=Fd.z3g (decide (k=0)) (s.drop k))∧Hid (w=wr)) (fun i _=>s.length - (intOf i).toNat)
 case atStart=>exact⟨0,Nat.zero_le _,rfl,rfl,by first | exact rfl | exact trivial⟩
 case round =>
  obtain⟨k,hk,rfl,HA,HW⟩:=hrel;have hw:=HW.out;clear HW;subst hw
  by_cases hlt:k < s.length
  ·have s1:k < (st s).size:=by rw[HZ.out];exact hlt
   have hget:∀ q:k < (st s).size,(st s)[k]'q=s[k]:=fun _=>rfl
   have HDB:Hid (∀ b,Fd.z2d (decide (k=0)) s[k]=b→Fd.z3g (decide (k=0)) (s.drop k)=(b && Fd.z3g (decide (k + 1=0)) (s.drop (k + 1)))):=fun b h=>by rw[Fd.q5e s k hlt];exact congrArg (fun z=>z && _) h
   have HTB:=Ld (z4j s[k] (decide (k=0)) w);have hk0:((k:Int) == 0)=decide (k=0):=by
    rw[Bool.eq_iff_iff,beq_iff_eq,decide_eq_true_iff];omega
   obtain⟨b,hb⟩:∃ b,Fd.z2d (decide (k=0)) s[k]=b:=⟨_,rfl⟩;rw[hb] at HTB;have HD:=Ld (HDB.out b hb);clear hb HDB;go_wp2_with fail;refine HTB.out.mono ?_;rintro e w1 ⟨rfl,hw1⟩;subst w1
   cases b with
   | true =>
    go_wp2_with fail;go_roundw
    case rel=>exact⟨k + 1,by omega,by go_num,by show _=_;rw[HA.out,HD.out,Bool.true_and],by first | exact rfl | exact trivial⟩
    case measure=>simp[intOf];omega
   | false =>
    have HE:Hid (Fd.z0b s=false):=by show _=_;rw[HT.out,HA.out,HD.out];rfl
    go_wp2_with fail;go_ret;exact⟨Z8 HE.out.symm,rfl⟩
  ·have hke:k=s.length:=by omega
   have HE:Hid (Fd.z0b s=(decide (s ≠ []) && decide (s.length≤20))):=by
    show _=_;rw[HT.out,HA.out,hke,List.drop_length];rfl
   clear hke HA
   rcases z3c s with ⟨e1,e2⟩ | ⟨e1,e2⟩
   ·have HF:Hid (Fd.z0b s=false):=by show _=_;rw[HE.out,decide_eq_false (fun q=>q e1)];rfl
    clear e1;go_wp2_with fail;go_ret;exact⟨Z8 HF.out.symm,rfl⟩
   ·rw[decide_eq_true e1,Bool.true_and] at HE
    clear e1
    by_cases h20:s.length≤20
    ·have s2:¬ 20 < (st s).size:=by rw[HZ.out];omega
     have s3:((st s).size:Int)≤20:=by rw[HZ.out];omega
     rw[decide_eq_true h20] at HE;go_wp2_with fail;go_ret;exact⟨Z8 (by rw[HE.out]),rfl⟩
    ·have s3:¬ ((st s).size:Int)≤20:=by rw[HZ.out];omega
     rw[decide_eq_false h20] at HE;go_wp2_with fail;go_ret;exact⟨Z8 (by rw[HE.out]),rfl⟩
end Go.Proofs.YtjonkbdldebkiaaGreatDoor
namespace Fd
open Mk
theorem z2k:∀ f:Fo,(z16 f).length≤f.bulk
 | .nil=>Lr
 | .node n a t k r=>by
  have h1:=z2k k;have h2:=z2k r;have e:Fo.bulk (.node n a t k r)=1 + n.length + t.length + Fo.atB a + Fo.bulk k + Fo.bulk r:=rfl;rw[e];unfold z16;rw[List.length_append,List.length_append];omega
theorem q90 (n:Bs) (a:List At) (t:Bs) (k r:Fo):z16 (.node n a t k r)=t++z16 k++z16 r:=rfl
def j7u (s:Bs):Bs:=(s.reverse.dropWhile z2s).reverse
theorem trimX_is (s:Bs):q7a s=j7u (V8 s):=rfl
theorem j2z (c:UInt8) (t:Bs):V8 (c :: t)=if z2s c then V8 t else c :: t:=by unfold V8;rw[List.dropWhile_cons]
theorem j3o (t:Bs) (c:UInt8):j7u (t++[c])=if z2s c then j7u t else t++[c]:=by
 unfold j7u;rw[List.reverse_append,List.reverse_singleton,List.singleton_append,List.dropWhile_cons]
 split
 ·rfl
 ·simp
end Fd
namespace Go.Proofs.YtjonkbdldebkiaaGreatDoor
open Go.Proofs.Tryz Go.RowKit
theorem fd_text (N:Nat):∀ (n:List UInt8) (a:List Mk.At) (t:List UInt8) (k:Mk.Fo),k.bulk < N→t.length + k.bulk≤33554432→∀ (va vk:Value) (K:Nat→Prop) (w:World),AtsV w K va a→FoV w K vk k→(∀ b,K b→b < w.heap.size) →
  Calls prog 174 #[z05 n va t vk] w fun e w'=>e=.returned (.string (st (t++Fd.z16 k)))∧Below w.heap.size w w':=by
 induction N with
 | zero=>intro n a t k h;omega
 | succ N ih =>
  intro n a t k hN hl va vk K w hva hvk hK;have HIH:=Ld ih;clear ih;obtain⟨g,o,cap,hv1,hlen,hat⟩:=hvk.at_
  have HAT:=Ld hat
  obtain⟨aoa,capa,hva1,_⟩:=id hva;subst hva1;have hfl:=Mk.Fo.z1r k;have htb:=Fd.z2k k;unfold z05
  rcases hv1 with ⟨hv1,hKg⟩ | ⟨ao,hv1,hnil⟩
  ·have hgl:=hK g hKg
   subst hv1;have hal:=(Below.refl w.heap.size w).alloc (Lr) (.cells #[.string (st n),.slice aoa a.length capa,.string (st t),.slice (some ⟨g,o,none⟩) k.len cap] 53);have AL:=Ld hal;have PB:=Ld (Blk.new w 53 #[.string (st n),.slice aoa a.length capa,.string (st t),.slice (some ⟨g,o,none⟩) k.len cap]);clear hal hva hvk hat
   go_enter func174,ntmps174;go_upto_region 1 with fail;generalize w.alloc (.cells #[.string (st n),.slice aoa a.length capa,.string (st t),.slice (some ⟨g,o,none⟩) k.len cap] 53)=w1 at AL PB ⊢;have p2:w1.cell? ⟨w.heap.size,2,none⟩=some (.string (st t)):=Blk.cell PB.out 2;have p3:w1.cell? ⟨w.heap.size,3,none⟩=some (.slice (some ⟨g,o,none⟩) k.len cap):=Blk.cell PB.out 3;clear PB;go_wp2_with fail;clear p2 p3
   go_loopw [3,11] (fun x i wr=>∃ (j:Nat) (cur:List UInt8),j≤k.len∧i=.int .i64 j∧x=.string (st cur)∧cur.length + (k.drop j).bulk≤33554432∧Hid (t++Fd.z16 k=cur++Fd.z16 (k.drop j))∧Hid (Below w.heap.size w wr)) (fun _ i _=>k.len - (intOf i).toNat)
   case atStart=>exact⟨0,t,Nat.zero_le _,rfl,rfl,by rw[Mk.Fo.drop_zero];exact hl,by show _=_;rw[Mk.Fo.drop_zero],AL⟩
   case round =>
    obtain⟨j,cur,hj,rfl,rfl,hcl,HA,BL⟩:=hrel
    by_cases hlt:j < k.len
    ·obtain⟨n',a',t',kk,r,hd,hd1⟩:=Mk.Fo.z6j k j hlt
     obtain⟨va',vk',c0,c1,c2,c3,hva',hvk'⟩:=HAT.out j n' a' t' kk r hd;rw[← BL.out.cell (p:=⟨g,_,none⟩) hgl] at c0 c1 c2 c3;obtain⟨aoa',capa',hva1',_⟩:=id hva';obtain⟨aok',capk',xsk',hvk1',_⟩:=id hvk';subst hva1';subst hvk1';have hdb:(k.drop j).bulk=1 + n'.length + t'.length + Mk.Fo.atB a' + kk.bulk + r.bulk:=by rw[hd];rfl
     have hdb2:=Mk.Fo.z1z k j;have htk:=Fd.z2k kk;have hal1:=(Below.refl wr.heap.size wr).alloc (Lr) (.cells #[.string (st n'),.slice aoa' a'.length capa',.string (st t'),.slice aok' kk.len capk'] 53);have BL1:=Ld (BL.out.trans (hal1.mono BL.out.size));have QB:=Ld (Blk.new wr 53 #[.string (st n'),.slice aoa' a'.length capa',.string (st t'),.slice aok' kk.len capk']);have HC:=Ld (HIH.out n' a' t' kk (by omega) (by omega) _ _ K (wr.alloc (.cells #[.string (st n'),.slice aoa' a'.length capa',.string (st t'),.slice aok' kk.len capk'] 53)) (hva'.below hK BL1.out) (hvk'.below hK BL1.out) (fun b hb=>Nat.lt_of_lt_of_le (hK b hb) BL1.out.size));have HN:Hid (t++Fd.z16 k=(cur++(t'++Fd.z16 kk))++Fd.z16 (k.drop (j + 1))):=by show _=_;rw[HA.out,hd,hd1,Fd.q90];simp only [List.append_assoc]
     have hcl2:(cur++(t'++Fd.z16 kk)).length + (k.drop (j + 1)).bulk≤33554432:=by rw[hd1,List.length_append,List.length_append];omega
     have hji:(j:Int) < k.len:=by omega
     unfold z05 at HC;clear HA hd hd1 hva' hvk' hal1;go_upto_region 5 with fail;generalize wr.alloc (.cells #[.string (st n'),.slice aoa' a'.length capa',.string (st t'),.slice aok' kk.len capk'] 53)=w2 at BL1 QB HC ⊢;have q0:w2.cell? ⟨wr.heap.size,0,none⟩=some (.string (st n')):=Blk.cell QB.out 0;have q1:w2.cell? ⟨wr.heap.size,1,none⟩=some (.slice aoa' a'.length capa'):=Blk.cell QB.out 1;have q2:w2.cell? ⟨wr.heap.size,2,none⟩=some (.string (st t')):=Blk.cell QB.out 2;have q3:w2.cell? ⟨wr.heap.size,3,none⟩=some (.slice aok' kk.len capk'):=Blk.cell QB.out 3;clear c0 c1 c2 c3;have hsum:¬ 9223372036854775807 < (st cur).size + (st (t'++Fd.z16 kk)).size:=by rw[Z4,Z4,List.length_append];omega
     go_wp2_with fail;refine HC.out.mono ?_;rintro e w3 ⟨rfl,hb3⟩;have BL3:=Ld (BL1.out.trans (hb3.mono BL1.out.size));clear hb3 HC q0 q1 q2 q3;go_wp2_with fail;rw[show st cur++st (t'++Fd.z16 kk)=st (cur++(t'++Fd.z16 kk)) from z3m (st cur) (st (t'++Fd.z16 kk))];go_roundw
     case rel=>exact⟨j + 1,_,by omega,by go_num,rfl,hcl2,HN,BL3⟩
     case measure=>simp[intOf];omega
    ·have hje:j=k.len:=by omega
     have HE:Hid (t++Fd.z16 k=cur):=by show _=_;rw[HA.out,hje,Mk.Fo.z4e];exact List.append_nil _
     have hji:¬ (j:Int) < k.len:=by omega
     clear HA hje;go_wp2_with fail;go_ret;exact⟨by (rw[HE.out]) <;> rfl,BL.out⟩
  ·subst hnil
   subst hv1;have hal:=(Below.refl w.heap.size w).alloc (Lr) (.cells #[.string (st n),.slice aoa a.length capa,.string (st t),.slice ao 0 cap] 53);have HE:Hid (t++Fd.z16 .nil=t):=List.append_nil _;clear HAT hvk hva hat
   go_enter func174,ntmps174;go_wp2_with fail
   go_loopw [3,11] (fun x i wr=>x=.string (st t)∧i=.int .i64 0∧Hid (Below w.heap.size w wr)) (fun _ _ _=>0)
   case atStart=>exact⟨rfl,rfl,hal⟩
   case round =>
    obtain⟨rfl,rfl,BL⟩:=hrel;go_wp2_with fail;go_ret;exact⟨by (rw[HE.out]) <;> rfl,BL.out⟩
theorem q64 (c:UInt8) (t:List UInt8):(st (c :: t)).extract 1 (st (c :: t)).size=st t:=by
 rw[Y1,z1o,Z4];simp
theorem q63 (t:List UInt8) (c:UInt8):(st (t++[c])).extract 0 t.length=st t:=by
 rw[Y1,z1o];simp
theorem fd_trim (s:List UInt8) (w:World) (hs:s.length≤1099511627776) :
  Calls prog 173 #[.string (st s)] w fun e w'=>e=.returned (.string (st (Fd.q7a s)))∧w'=w:=by
 have hst:∀ l:List UInt8,(st l).toList=l:=fun l=>Lib.toList_data _
 have HT:=Ld (Fd.trimX_is s);generalize Fd.q7a s=out at HT ⊢;go_enter func173,ntmps173
 go_upto_block 0 with fail
 go_cut [0] (fun x wx=>x=.string (st (Fd.V8 s))∧w=wx)
 case first =>
  as_aux_lemma =>
  go_wp2_with fail
  go_loopg [0] s.length (fun g x wr=>∃ u:List UInt8,x=.string (st u)∧u.length≤g∧u.length≤s.length∧Hid (Fd.V8 s=Fd.V8 u)∧Hid (w=wr))
  case atStart=>exact⟨s,rfl,Lr,Lr,rfl,rfl⟩
  case round =>
   obtain⟨u,rfl,hg,hul,HA,HW⟩:=hrel;have hw:=HW.out;clear HW;subst hw
   cases u with
   | nil =>
    have HE:Hid (Fd.V8 s=[]):=by show _=_;rw[HA.out];rfl
    have hst0:(st ([]:List UInt8)).toList=[]:=Lib.toList_data _;clear HA;go_wp2_with fail;go_meet
    case rel=>exact⟨by rw[HE.out],rfl⟩
   | cons c t =>
    have s1:0 < (st (c :: t)).size:=by rw[Z4];simp
    have s2:(1:Int)≤(st (c :: t)).size:=by omega
    have hget:∀ q:0 < (st (c :: t)).size,(st (c :: t))[0]'q=c:=fun _=>rfl
    have hx:=q64 c t;have HSK:=Ld (Fd.j2z c t);have HWH:=Ld (fun W=>q5k c W);obtain⟨b,hb⟩:∃ b,Fd.z2s c=b:=⟨_,rfl⟩;rw[hb] at HWH HSK;clear hb;have HX:=Ld hx;clear hx
    cases b with
    | true =>
     have hgl:t.length + 1≤gk:=by simpa using hg
     have hul2:t.length + 1≤s.length:=by simpa using hul
     clear hg hul;obtain⟨g',rfl⟩:∃ g',gk=g' + 1:=⟨gk - 1,by omega⟩;go_wp2_with fail;refine(HWH.out _).mono ?_;rintro e w1 ⟨rfl,hw1⟩;subst w1;go_wp2_with fail;rw[HX.out]
     go_roundg g'
     case measure=>omega
     case rel=>exact⟨t,rfl,by omega,by omega,by show _=_;rw[HA.out,HSK.out];rfl,rfl⟩
    | false =>
     have HE:Hid (Fd.V8 s=c :: t):=by show _=_;rw[HA.out,HSK.out];rfl
     go_wp2_with fail;refine(HWH.out _).mono ?_;rintro e w1 ⟨rfl,hw1⟩;subst w1;go_wp2_with fail;go_meet
     case rel=>exact⟨by rw[HE.out],rfl⟩
 case rest =>
  as_aux_lemma =>
  obtain⟨rfl,hw⟩:=hcut;subst hw;have hl0:(Fd.V8 s).length≤1099511627776:=Nat.le_trans (List.dropWhile_suffix Fd.z2s (l:=s)).length_le hs;generalize Fd.V8 s=v at HT hl0 ⊢
  go_upto_block 2 with fail
  go_cut [0] (fun x wx=>x=.string (st out)∧w=wx)
  case first =>
   as_aux_lemma =>
   go_wp2_with fail
   go_loopg [0] v.length (fun g x wr=>∃ u:List UInt8,x=.string (st u)∧u.length≤g∧u.length≤v.length∧Hid (out=Fd.j7u u)∧Hid (w=wr))
   case atStart=>exact⟨v,rfl,Lr,Lr,HT,rfl⟩
   case round =>
    obtain⟨u,rfl,hg,hul,HA,HW⟩:=hrel;have hw:=HW.out;clear HW;subst hw
    rcases List.eq_nil_or_concat u with h0 | ⟨t,c,h0⟩
    ·subst h0
     have HE:Hid (out=[]):=by show _=_;rw[HA.out];rfl
     have hst0:(st ([]:List UInt8)).toList=[]:=Lib.toList_data _;clear HA;go_wp2_with fail;go_meet
     case rel=>exact⟨by rw[HE.out],rfl⟩
    ·rw[List.concat_eq_append] at h0
     subst h0;have hz:(st (t++[c])).size=t.length + 1:=by rw[Z4];simp
     have s1:t.length < (st (t++[c])).size:=by omega
     have s2:(t.length:Int) < (st (t++[c])).size:=by omega
     have s3:((st (t++[c])).size:Int) - 1=t.length:=by omega
     have s4:(0:Int)≤(t.length:Int):=by omega
     have s5:(t.length:Int)≤(st (t++[c])).size:=by omega
     have hne:(t++[c] == ([]:List UInt8))=false:=by simp
     have hget:∀ q:t.length < (st (t++[c])).size,(st (t++[c]))[t.length]'q=c:=fun q=>by
      show (t++[c])[t.length]'(by simp)=c;simp
     have HX:=Ld (q63 t c);have HSK:=Ld (Fd.j3o t c);have HWH:=Ld (fun W=>q5k c W);obtain⟨b,hb⟩:∃ b,Fd.z2s c=b:=⟨_,rfl⟩;rw[hb] at HWH HSK;have hgl:t.length + 1≤gk:=by simpa using hg
     have hul2:t.length + 1≤v.length:=by simpa using hul
     clear hb hz hg hul
     cases b with
     | true =>
      obtain⟨g',rfl⟩:∃ g',gk=g' + 1:=⟨gk - 1,by omega⟩;go_wp2_with fail;refine(HWH.out _).mono ?_;rintro e w1 ⟨rfl,hw1⟩;subst w1;go_wp2_with fail;rw[HX.out]
      go_roundg g'
      case measure=>omega
      case rel=>exact⟨t,rfl,by omega,by omega,by show _=_;rw[HA.out,HSK.out];rfl,rfl⟩
     | false =>
      have HE:Hid (out=t++[c]):=by show _=_;rw[HA.out,HSK.out];rfl
      go_wp2_with fail;refine(HWH.out _).mono ?_;rintro e w1 ⟨rfl,hw1⟩;subst w1;go_wp2_with fail;go_meet
      case rel=>exact⟨by rw[HE.out],rfl⟩
  case rest =>
   as_aux_lemma =>
   obtain⟨rfl,hw⟩:=hcut;subst hw;go_wp2_with fail;go_ret;exact⟨rfl,rfl⟩
theorem q58 (g:FuncId) (lb:Array Value) (q:Mk.At→Bool) (eg:∀ args w,(callFunc g args).run prog w=.ok (.enter g args) w) (l:List Mk.At) (v:Value) (K:Nat→Prop) (w:World) (hv:AtsV w K v l) (hK:∀ b,K b→b < w.heap.size) (hl:l.length≤33554432) (hq:q5m g lb q l w) :
  Calls prog 178 #[v,.func (.func g) #[] lb] w fun e w'=>Below w.heap.size w w'∧∃ i:Int,e=.returned (.int .i64 i)∧((i = -1∧l.find? q=none)∨∃ (j:Nat) (hj:j < l.length),i=(j:Int)∧l.find? q=some l[j]):=by
 obtain⟨b,o,cap,hKb,hv1,hcl⟩:=hv.at_
 have HQ:=Ld hq;have HC:=Ld hcl;clear hq hcl
 rcases hv1 with hv1 | ⟨ao,hv1,hl0⟩
 ·subst hv1
  go_enter func178,ntmps178;go_wp2_with fail
  go_loopw [8] (fun i wr=>∃ k:Nat,k≤l.length∧i=.int .i64 k∧Hid (l.find? q=(l.drop k).find? q)∧Hid (Below w.heap.size w wr)) (fun i _=>l.length - (intOf i).toNat)
  case atStart=>exact⟨0,Nat.zero_le _,rfl,rfl,Below.refl _ _⟩
  case round =>
   obtain⟨k,hk,rfl,HA,BL⟩:=hrel
   by_cases hlt:k < l.length
   ·have hb:b < w.heap.size:=hK b (hKb (by intro e;subst e;simp at hlt))
    obtain⟨c0,c1⟩:=HC.out k hlt;rw[← BL.out.cell (p:=⟨b,_,none⟩) hb] at c0 c1;have hcall:=HQ.out wr BL.out l[k] (List.getElem_mem _);have HD:Hid (l.find? q=if q l[k] then some l[k] else (l.drop (k + 1)).find? q):=by
     show _=_;rw[HA.out,List.drop_eq_getElem_cons hlt,List.find?_cons]
     cases q l[k] <;> rfl
    generalize q l[k]=bb at hcall HD;unfold atV at hcall;have HCALL:=Ld hcall;clear hcall
    cases bb with
    | true =>
     go_wp2_with fail;refine HCALL.out.mono ?_;rintro e w1 ⟨rfl,hb1⟩;have BL1:=Ld (BL.out.trans (hb1.mono BL.out.size));clear hb1;go_wp2_with fail;go_ret;exact⟨BL1.out,k,rfl,.inr ⟨k,hlt,rfl,by rw[HD.out];rfl⟩⟩
    | false =>
     go_wp2_with fail;refine HCALL.out.mono ?_;rintro e w1 ⟨rfl,hb1⟩;have BL1:=Ld (BL.out.trans (hb1.mono BL.out.size));clear hb1;go_wp2_with fail;go_roundw
     case rel=>exact⟨k + 1,by omega,by go_num,by show _=_;rw[HD.out];rfl,BL1⟩
     case measure=>simp[intOf];omega
   ·have HN:Hid (l.find? q=none):=by show _=_;rw[HA.out,List.drop_of_length_le (by omega)];rfl
    clear HA;go_wp2_with fail;go_ret;exact⟨BL.out,-1,rfl,.inl ⟨rfl,HN.out⟩⟩
 ·subst hl0
  subst hv1;clear HC hK;go_enter func178,ntmps178;go_wp2_with fail
  go_loopw [8] (fun i wr=>i=.int .i64 0∧wr=w) (fun _ _=>0)
  case atStart=>exact⟨rfl,rfl⟩
  case round =>
   obtain⟨rfl,rfl⟩:=hrel;go_wp2_with fail;go_ret;exact⟨Below.refl _ _,-1,rfl,.inl ⟨rfl,rfl⟩⟩
theorem j0s (P:Nat) (nm:List UInt8) (l:List Mk.At) (w:World) (hP:P < w.heap.size) (hc:w.cell? ⟨P,0,none⟩=some (.string (st nm))):q5m 179 #[.pointer (some ⟨P,0,none⟩)] (fun a=>a.n == nm) l w:=by
 intro w1 hb a _;have c0:w1.cell? ⟨P,0,none⟩=some (.string (st nm)):=(hb.cell (p:=⟨P,0,none⟩) hP).trans hc;have hP1:P < w1.heap.size:=Nat.lt_of_lt_of_le hP hb.size;unfold atV;go_enter func179,ntmps179;go_wp2_with fail;go_ret;exact⟨Z8 (by rw[show (st a.n).toList=a.n from Lib.toList_data _,show (st nm).toList=nm from Lib.toList_data _]),(Below.refl _ w1).alloc (Lr) _⟩
theorem eg_value (args:Array Value) (w:World):(callFunc 179 args).run prog w=.ok (.enter 179 args) w:=Z7 func179 (by kernel_rfl) rfl _ _
theorem q9h (n nm:List UInt8) (a:List Mk.At) (t:List UInt8) (va vk:Value) (k:Mk.Fo) (K:Nat→Prop) (w:World) (hva:AtsV w K va a) (hvk:∃ ao cap,vk=.slice ao k.len cap) (hK:∀ b,K b→b < w.heap.size) (hl:a.length≤33554432) :
  Calls prog 121 #[z05 n va t vk,.string (st nm)] w fun e w'=>e=.returned (.tuple #[.string (st ((Fd.valueA a nm).getD [])),.bool (Fd.valueA a nm).isSome])∧Below w.heap.size w w':=by
 have hmf:∀ (fn:Fn) (first cap:Array Value) (w:World),(Instr.makeFunc fn first cap).run prog w=.ok (.func fn first cap) w:=fun _ _ _ _=>rfl
 obtain⟨g,o,cap,hKg,hv1,hcl⟩:=hva.at_
 obtain⟨aok,capk,rfl⟩:=hvk;obtain⟨aoa,capa,hva1,_⟩:=id hva;subst hva1;have hV:Fd.valueA a nm=(a.find? fun x=>x.n == nm).map fun x=>x.v:=rfl
 have HV:=Ld hV;generalize Fd.valueA a nm=out at HV ⊢;have hal1:=(Below.refl w.heap.size w).alloc (Lr) (.cells #[.string (st n),.slice aoa a.length capa,.string (st t),.slice aok k.len capk] 53);have hal2:=hal1.alloc hal1.size (.cells #[.string (st nm)] 9);have AL:=Ld hal2;have NB:=Ld (Blk.alloc (Blk.new w 53 #[.string (st n),.slice aoa a.length capa,.string (st t),.slice aok k.len capk]) (.cells #[.string (st nm)] 9));have SB0:=Blk.new (w.alloc (.cells #[.string (st n),.slice aoa a.length capa,.string (st t),.slice aok k.len capk] 53)) 9 #[.string (st nm)];rw[World.size_alloc] at SB0;have SB:=Ld SB0;have HI:=Ld (q58 179 #[.pointer (some ⟨w.heap.size + 1,0,none⟩)] (fun x=>x.n == nm) eg_value a _ K _ (hva.below hK hal2) (fun b hb=>Nat.lt_of_lt_of_le (hK b hb) hal2.size) hl (j0s (w.heap.size + 1) nm a _ (Blk.lt SB0) (Blk.cell SB0 0)));have HC:=Ld hcl;have HKW:=Ld hK;have HVV:=Ld hv1;clear hal1 hal2 SB0 hva hK hV hcl hv1;unfold z05;go_enter func121,ntmps121;go_upto_region 1 with fail;generalize (w.alloc (.cells #[.string (st n),.slice aoa a.length capa,.string (st t),.slice aok k.len capk] 53)).alloc (.cells #[.string (st nm)] 9)=w1 at AL NB SB HI ⊢;have c1:w1.cell? ⟨w.heap.size,1,none⟩=some (.slice aoa a.length capa):=Blk.cell NB.out 1;have hNl:=Blk.lt NB.out;clear SB;go_wp2_with fail;refine HI.out.mono ?_;rintro e w2 ⟨hb,i,rfl,hi⟩;have B2:=Ld (AL.out.trans (hb.mono AL.out.size));have d1:w2.cell? ⟨w.heap.size,1,none⟩=some (.slice aoa a.length capa):=(hb.cell (p:=⟨w.heap.size,1,none⟩) hNl).trans c1;clear hb HI AL NB c1
 rcases hi with ⟨rfl,h2⟩ | ⟨j,hj,rfl,h2⟩
 ·have HE:Hid (out=none):=by show _=_;rw[HV.out,h2];rfl
  clear h2 HV;go_wp2_with fail;go_ret2;exact⟨by rw[HE.out];rfl,B2.out⟩
 ·have HE:Hid (out=some a[j].v):=by show _=_;rw[HV.out,h2];rfl
  clear h2 HV
  rcases HVV.out with hq | ⟨ao,hq,h0⟩
  ·injection hq with q1 q2 q3
   subst q1;obtain⟨c0,c1⟩:=HC.out j hj;have hg:g < w.heap.size:=HKW.out g (hKg (by intro e;subst e;simp at hj));rw[← B2.out.cell (p:=⟨g,_,none⟩) hg] at c0 c1;have hji:(j:Int) < a.length:=by omega
   have hj0:¬ (j:Int) < 0:=by omega
   have hj1:(0:Int)≤j:=by omega
   clear HC HVV hKg;go_wp2_with fail;go_ret2;exact⟨by rw[HE.out];rfl,B2.out⟩
  ·subst h0
   simp at hj
end Go.Proofs.YtjonkbdldebkiaaGreatDoor
