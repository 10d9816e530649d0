/- Contract of strings.Replacer's Replace at any text of at most 2^36 bytes. -/
import Derived.Test.YtagleefekmdldaaGreatDoorYMkRep5
import Derived.Deep.OwnRows
set_option linter.unusedVariables false
set_option linter.unusedSimpArgs false
set_option maxHeartbeats 8000000
set_option maxRecDepth 100000
namespace Go.Proofs.YtagleefekmdldaaGreatDoor
open Go.Proofs.Tryz Go.RowKit
theorem Tryz.infoU8:(prog.info? 5).map (fun i=>(i.zero,i.size,i.bytes))=some (some (.int .u8 0),1,1):=by kernel_rfl
theorem Tryz.sizeU8:(prog.info? 5).map (·.size)=some 1:=by kernel_rfl
theorem rr_at (k:Nat) (h:k < 4):∃ c n,Mk.reps.reverse[k]? = some (c,n)∧Mk.reps.lookup c=some n∧4≤n.length∧n.length≤6:=by
 match k,h with
 | 0,_=>exact⟨_,_,rfl,rfl,by decide,by decide⟩
 | 1,_=>exact⟨_,_,rfl,rfl,by decide,by decide⟩
 | 2,_=>exact⟨_,_,rfl,rfl,by decide,by decide⟩
 | 3,_=>exact⟨_,_,rfl,rfl,by decide,by decide⟩
theorem q34 (x:UInt8) (n:List UInt8) (h:Mk.reps.lookup x=some n):4≤n.length∧n.length≤6:=by
 have key:∀ y ∈ Mk.reps,4≤y.2.length∧y.2.length≤6:=by decide
 have:∀ l:List (UInt8 × List UInt8),l.lookup x=some n→∃ c,(c,n) ∈ l:=by
  intro l
  induction l with
  | nil=>intro h;cases h
  | cons y r ih =>
   intro h;obtain⟨c,m⟩:=y;rw[List.lookup_cons] at h
   split at h
   ·injection h with h;exact⟨c,by rw[h];simp⟩
   ·obtain⟨c',hc⟩:=ih h;exact⟨c',by simp[hc]⟩
 obtain⟨c,hc⟩:=this _ h;exact key _ hc
theorem j2q (s:List UInt8) (B N:Nat) (w:World) (h:RepB w B N 0) (hl:s.length≤68719476736) :
  Calls prog 278 #[.pointer (some ⟨N,0,none⟩),.string (st s)] w fun e w'=>e=.returned (.string (st (Mk.put s)))∧Below w.heap.size w w':=by
 obtain⟨cs,ao,cap,xs,K,h1,h2,h3,h4,h5,h6,h7,h8⟩:=h;have c6:w.cell? ⟨N,256,none⟩=some (.slice ao 4 cap):=(Blk.cell h1 _).trans h3;have hNl:=Blk.lt h1;have HT:Hid (∀ x:UInt8,(Mk.reps.lookup x=none→w.cell? ⟨N,x.toNat,none⟩=some (.slice none 0 0))∧∀ n,Mk.reps.lookup x=some n→∃ g cap,w.cell? ⟨N,x.toNat,none⟩=some (.slice (some ⟨g,0,none⟩) n.length cap)∧g < w.heap.size∧∀ (i:Nat) (u:Value),(Lib.byteCells n)[i]? = some u→w.cell? ⟨g,i,none⟩=some u):=fun x=>by
  refine⟨fun e=>(Blk.cell h1 _).trans ((h8 x).1 e),fun n e=>?_⟩;obtain⟨v,q1,g,cap,q2,q3,q4⟩:=(h8 x).2 n e;subst q2;exact⟨g,cap,(Blk.cell h1 _).trans q1,(h6 g q3).2.1,q4⟩
 subst h7;have hst:∀ l:List UInt8,(st l).toList=l:=fun l=>Lib.toList_data _
 rcases id h4.2 with ⟨_,q⟩ | ⟨a,cap',cur,hv,_⟩
 ·simp[z09,Mk.reps] at q
 injection hv with e1 e2 e3;subst e1;subst e3;have hcl:=h4.cells (g:=a) rfl;have HX:Hid (∀ k,k < 4→∃ c n,Mk.reps.reverse[k]? = some (c,n)∧Mk.reps.lookup c=some n∧4≤n.length∧n.length≤6∧w.cell? ⟨a,k,none⟩=some (.string (st [c]))):=fun k hk=>by
  obtain⟨c,n,x1,x2,x3,x4⟩:=rr_at k hk;refine⟨c,n,x1,x2,x3,x4,?_⟩;have:=hcl k (.string (st [c])) (by simp only [z09,List.drop_zero,List.map_map,List.getElem?_map,x1];rfl)
  rwa [show (⟨a,0,none⟩:Addr).add k=⟨a,k,none⟩ by unfold Addr.add;split <;> simp_all] at this
 have hput:=Mk.j5x s;have hp6:=Mk.put_len6 s;have hal:=(h4.lt a rfl).2;have e2:(st s).size=s.length:=y9 s;have q50:∀ (w:World) (a:Option Addr) (n c:Nat),(binOp .neq 85 (.slice a n c) (.slice none 0 0)).run prog w=.ok (.bool (!a.isNone)) w:=fun w a n c=>run_neq_slice_nil w 85 _ a n c underlying85
 clear h1 h2 h3 h4 h5 h6 h8 hcl;go_enter func278,ntmps278;go_upto_if 26 with fail
 go_cut [5,6] (fun nz an wx=>nz=.int .i64 (Mk.put s).length∧(∃ ch:Bool,an=.bool ch∧Hid (ch=false→Mk.put s=s))∧Hid (Below w.heap.size w wx))
 case first =>
  by_cases h32:32≤s.length
  ·have h32i:(32:Int)≤s.length:=by omega
   go_wp2_with fail
   go_loopw [5,6,32] (fun nz an ix wx=>∃ (k:Nat) (ch:Bool),k≤4∧nz=.int .i64 ((s.length + Mk.cntN (Mk.reps.reverse.take k) s:Nat):Int)∧an=.bool ch∧Hid (ch=false→∀ x ∈ Mk.reps.reverse.take k,s.count x.1=0)∧ix=.int .i64 k∧Hid (Below w.heap.size w wx)) (fun _ _ ix _=>4 - (intOf ix).toNat)
   case atStart=>exact⟨0,false,Nat.zero_le _,by simp[Mk.cntN],rfl,(fun _ _ q=>by cases q),rfl,Below.refl _ _⟩
   case round =>
    obtain⟨k,ch,hk,rfl,rfl,HCH,rfl,BL⟩:=hrel;clear c6
    by_cases hlt:k < 4
    ·obtain⟨c,n,x1,x2,x3,x4,x5⟩:=HX.out k hlt
     obtain⟨q,hq⟩:∃ q,s.count c=q:=⟨_,rfl⟩;have HCN:Hid (∀ W:World,Calls prog 280 #[.string (st s),.string (st [c])] W fun e w'=>e=.returned (.int .i64 q)∧w'=W):=fun W=>by rw[← hq];exact Tryz.strings_Count_one (st s) c W
     have hstep:=Mk.cnt_step s k (c,n) x1;have hql:s.count c≤s.length:=List.count_le_length;have HCH2:Hid (q=0→ch=false→∀ x ∈ Mk.reps.reverse.take (k + 1),s.count x.1=0):=fun q0 hc x hx=>by
      rw[List.take_add_one,x1] at hx
      rcases List.mem_append.1 hx with h | h
      ·exact HCH.out hc x h
      ·have:x=(c,n):=by simpa using h
       rw[this];show s.count c=0;rw[hq,q0]
     obtain⟨g,cp,z1,z2,z3⟩:=(HT.out c).2 n x2;rw[← BL.out.cell (p:=⟨N,_,none⟩) hNl] at z1;rw[← BL.out.cell (p:=⟨a,_,none⟩) hal] at x5;have hcl:=Mk.cnt_le s k (by omega);simp only at hstep;rw[hq] at hstep hql;obtain⟨m,hm⟩:∃ m,n.length=m:=⟨_,rfl⟩;rw[hm] at hstep x3 x4 z1;generalize Mk.cntN (Mk.reps.reverse.take k) s=A at hstep hcl;have HSTEP:=Ld hstep;have hc9:=c.toNat_lt;have hc8:(c.toNat:Int) < 256:=by omega
     have hc7:(0:Int)≤c.toNat:=by omega
     have e3:∀ h,(st [c])[0]'h=c:=fun _=>rfl
     have e4:(st [c]).size=1:=rfl;clear hstep hq hm x1 x2 z3 z2 HCH HX HT
     by_cases hq0:q=0
     ·subst hq0
      clear z1;go_wp2_with fail;refine(HCN.out _).mono ?_;rintro e w2 ⟨rfl,hw⟩;subst w2;go_wp2_with fail;go_roundw
      case rel=>exact⟨k + 1,ch,by omega,by rw[HSTEP.out];simp,rfl,HCH2.out trivial,by go_num,BL.out⟩
      case measure=>simp[intOf];omega
     ·have hqb:((q:Int) == 0)=false:=by rw[beq_eq_false_iff_ne];omega
      have hm6:m=4∨m=5∨m=6:=by omega
      clear HCH2
      rcases hm6 with rfl | rfl | rfl
      all_goals
       go_wp2_with fail;refine(HCN.out _).mono ?_;rintro e w2 ⟨rfl,hw⟩;subst w2;go_upto_region 9 with fail
       go_region
       all_goals
        go_wp2_with fail;go_roundw
        case rel=>exact⟨k + 1,true,by omega,by rw[HSTEP.out];first | go_num | (congr 1;omega),rfl,(fun h=>by cases h),by go_num,BL.out.drew⟩
        case measure=>simp[intOf];omega
    ·have:k=4:=by omega
     subst this;have hall:Mk.reps.reverse.take 4=Mk.reps.reverse:=rfl;have HF:Hid (ch=false→Mk.put s=s):=fun q=>Mk.none_put s (by have:=HCH.out q;rwa [hall] at this)
     rw[hall,← hput];clear HCH hall HX HT;go_wp2_with fail;go_meet
     case rel=>exact⟨rfl,⟨ch,rfl,HF⟩,BL⟩
  ·have h32i:¬ (32:Int)≤s.length:=by omega
   go_wp2_with fail
   go_loopw [5,6,10] (fun nz an ix wx=>∃ (k:Nat) (ch:Bool),k≤s.length∧nz=.int .i64 (((Mk.put (s.take k)).length + (s.length - k):Nat):Int)∧an=.bool ch∧Hid (ch=false→Mk.put (s.take k)=s.take k)∧ix=.int .i64 k∧wx=w) (fun _ _ ix _=>s.length - (intOf ix).toNat)
   case atStart=>exact⟨0,false,Nat.zero_le _,by simp[Mk.put],rfl,(fun _=>rfl),rfl,rfl⟩
   case round =>
    obtain⟨k,ch,hk,rfl,rfl,HCH,rfl,hw⟩:=hrel;subst hw
    by_cases hlt:k < s.length
    ·have hpt:=Mk.q9j s k hlt
     have hle:=Mk.z7g s k;have hle1:=Mk.z7g s (k + 1);have hes:=Mk.q03 s[k];have htk:s.take (k + 1)=s.take k++[s[k]]:=List.take_succ_eq_append_getElem hlt;obtain⟨x,hx⟩:∃ x,s[k]=x:=⟨_,rfl⟩;have hget:∀ h,(st s)[k]'h=x:=fun _=>hx
     rw[hx] at hpt hes htk;have hT:=HT.out x;have hb:=x.toNat_lt;have hb2:(x.toNat:Int) < 256:=by omega
     cases hlk:Mk.reps.lookup x with
     | none =>
      have z1:=hT.1 hlk;rw[hlk] at hes;have hl1:(Mk.put (s.take (k + 1))).length=(Mk.put (s.take k)).length + 1:=by rw[hpt,hes,List.length_append];rfl
      have HCH2:Hid (ch=false→Mk.put (s.take (k + 1))=s.take (k + 1)):=fun hc=>by
       rw[hpt,HCH.out hc,hes,htk];rfl
      generalize (Mk.put (s.take k)).length=A0 at hl1 hle ⊢;have HL1:=Ld hl1;clear hl1 hle1 hpt htk hes hx hT hlk HCH HX HT;go_wp2_with fail;go_roundw
      case rel=>exact⟨k + 1,ch,by omega,by have:=HL1.out;congr 1;omega,rfl,HCH2.out,by go_num,trivial⟩
      case measure=>simp[intOf];omega
     | some n =>
      obtain⟨g,cp,z1,z2,z3⟩:=hT.2 n hlk;rw[hlk] at hes;have hnl:=q34 x n hlk;have hl1:(Mk.put (s.take (k + 1))).length=(Mk.put (s.take k)).length + n.length:=by rw[hpt,hes,List.length_append];rfl
      obtain⟨m,hm⟩:∃ m,n.length=m:=⟨_,rfl⟩;rw[hm] at hl1 hnl z1;generalize (Mk.put (s.take k)).length=A0 at hl1 hle ⊢;have HL1:=Ld hl1;have hm6:m=4∨m=5∨m=6:=by omega
      clear hl1 hle1 hpt htk hes hx hT hlk hm hnl HCH HX HT z2 z3
      rcases hm6 with rfl | rfl | rfl
      all_goals
       go_wp2_with fail;go_roundw
       case rel=>exact⟨k + 1,true,by omega,by have:=HL1.out;congr 1;omega,rfl,(fun h=>by cases h),by go_num,trivial⟩
       case measure=>simp[intOf];omega
    ·have:k=s.length:=by omega
     subst this;have hall:s.take s.length=s:=List.take_of_length_le (Lr);rw[hall] at HCH;rw[hall,Nat.sub_self,Nat.add_zero];clear hall HX HT;go_wp2_with fail;go_meet
     case rel=>exact⟨rfl,⟨ch,rfl,HCH⟩,Below.refl _ _⟩
 case rest =>
  obtain⟨rfl,⟨ch,rfl,HCH⟩,BL⟩:=hcut
  cases ch with
  | false =>
   have HE:Hid (Mk.put s=s):=HCH.out rfl;clear HT HX HCH;go_wp2_with fail;go_ret;exact⟨by rw[HE.out];rfl,BL.out⟩
  | true =>
   obtain⟨wb,hwb⟩:∃ x,x=wc:=⟨_,rfl⟩;subst hwb;obtain⟨T,hT⟩:∃ T,(Mk.put s).length=T:=⟨_,rfl⟩;rw[hT] at hp6 ⊢;have HTT:=Ld hT;have hmk:=run_make_row' (P:=prog) 85 5 (.int .u8 0) 1 underlying85 Tryz.infoU8 rfl .i64 .i64 T (by omega) (by omega) wb;clear hT hput HX HCH c6;have HB0:Hid (Blk (wb.alloc (.cells (madeCells #[.int .u8 0] T) 5)) wb.heap.size 5 (z1m [] T).toArray):=by
    have h:=Blk.new wb 5 (madeCells #[.int .u8 0] T);rw[buf_new];have e:madeCells #[.int .u8 0] T=(List.replicate T (Value.int .u8 0)).toArray:=by rw[← toList_madeCells_one (.int .u8 0) T]
    rw[e] at h;rw[e];exact h
   have BL0:=Ld (BL.out.trans (((Below.refl wb.heap.size wb).alloc (Lr) (.cells (madeCells #[.int .u8 0] T) 5)).mono BL.out.size));have hg0:w.heap.size≤wb.heap.size:=BL.out.size;clear BL;go_upto_region 22 with fail;clear hmk;generalize (wb.alloc (.cells (madeCells #[.int .u8 0] T) 5))=w1 at HB0 BL0 ⊢;generalize wb.heap.size=g0 at HB0 hg0 ⊢;clear wb;go_wp2_with fail
   go_loopw [13,14] (fun jv iv wx=>∃ k:Nat,k≤s.length∧jv=.int .i64 (Mk.put (s.take k)).length∧iv=.int .i64 k∧Hid (Blk wx g0 5 (z1m (Mk.put (s.take k)) T).toArray)∧Hid (Below w.heap.size w wx)) (fun _ iv _=>s.length - (intOf iv).toNat)
   case atStart=>exact⟨0,Nat.zero_le _,rfl,rfl,HB0.out,BL0.out⟩
   case round =>
    clear HB0 BL0;obtain⟨k,hk,rfl,rfl,HB,BL⟩:=hrel
    by_cases hlt:k < s.length
    ·have hpt:=Mk.q9j s k hlt
     have hle1:=Mk.z7g s (k + 1);have hes:=Mk.q03 s[k];obtain⟨x,hx⟩:∃ x,s[k]=x:=⟨_,rfl⟩;have hget:∀ h,(st s)[k]'h=x:=fun _=>hx
     rw[hx] at hpt hes;have hTx:=HT.out x;have hb:=x.toNat_lt;have hb2:(x.toNat:Int) < 256:=by omega
     rw[HTT.out] at hle1;generalize hP:Mk.put (s.take k)=P at hpt HB ⊢
     cases hlk:Mk.reps.lookup x with
     | none =>
      have z1:=hTx.1 hlk;rw[← BL.out.cell (p:=⟨N,_,none⟩) hNl] at z1;rw[hlk] at hes;rw[hes] at hpt;have hl1:P.length + 1≤T:=by
       rw[hpt,List.length_append] at hle1;exact hle1
      have hlT:(P.length:Int) < T:=by omega
      have c0:wr.cell? ⟨g0,P.length,none⟩=some (.int .u8 0):=by
       rw[Blk.cell HB.out];simp only [List.getElem?_toArray];unfold z1m;rw[List.getElem?_append_right (by rw[Lib.byteCells_length];exact Lr),Lib.byteCells_length,Nat.sub_self,List.getElem?_replicate,if_pos (by omega)]
      have f0:wr.frozen? ⟨g0,P.length,none⟩=false:=Blk.frozen HB.out _;have HB2:=Ld (Blk.set_ HB.out P.length (.int .u8 x.toNat));have BL2:=Ld (BL.out.setCell (p:=⟨g0,P.length,none⟩) hg0 (.int .u8 x.toNat));have HPT:Hid (Mk.put (s.take (k + 1))=P++[x]):=hpt;clear hpt hes hx hTx hlk hle1 hP HB BL HT;go_wp2_with fail;go_roundw
      case rel=>exact⟨k + 1,by omega,by rw[HPT.out,List.length_append];rfl,by go_num,by show Blk _ _ _ _;rw[HPT.out,← buf_one P x T (by omega)];exact HB2.out,BL2.out⟩
      case measure=>simp[intOf];omega
     | some n =>
      obtain⟨g,cp,z1,z2,z3⟩:=hTx.2 n hlk;have hnl:=q34 x n hlk;rw[← BL.out.cell (p:=⟨N,_,none⟩) hNl] at z1;have Z3:Hid (∀ (i:Nat) (u:Value),(Lib.byteCells n)[i]? = some u→wr.cell? ⟨g,i,none⟩=some u):=fun i u q=>(BL.out.cell (p:=⟨g,i,none⟩) z2).trans (z3 i u q)
      rw[hlk] at hes;rw[hes] at hpt;have hl1:P.length + n.length≤T:=by
       rw[hpt,List.length_append] at hle1;exact hle1
      have hlT:(P.length:Int)≤T:=by omega
      have hlT2:¬ (P.length:Int)=T:=by omega
      have hlT3:¬ T=P.length:=by omega
      have HPT:Hid (Mk.put (s.take (k + 1))=P++n):=hpt;have hcn:(Lib.byteCells n).length=Nat.min n.length (T - P.length):=by rw[Lib.byteCells_length];exact(Nat.min_eq_left (by omega)).symm
      have hpos:0 < (Lib.byteCells n).length→(some (⟨g0,P.length,none⟩:Addr))=some ⟨g0,P.length,none⟩∧∃ ad,(some (⟨g,0,none⟩:Addr))=some ad∧∀ j v,(Lib.byteCells n)[j]? = some v→wr.cell? (ad.add j)=some v:=fun _=>⟨rfl,_,rfl,fun j v q=>by rw[show (⟨g,0,none⟩:Addr).add j=⟨g,j,none⟩ by unfold Addr.add;split <;> simp_all];exact Z3.out j v q⟩
      have hfit:P.length + (Lib.byteCells n).length≤(z1m P T).length:=by rw[Lib.byteCells_length,j3v P T (by omega)];exact hl1
      have hone:=Lib.byteCells_one n;have hbs:=q2n P n T hl1;obtain⟨m,hm⟩:∃ m,n.length=m:=⟨_,rfl⟩;have hml:=Lib.byteCells_length n;rw[hm] at hnl hl1 z1 hcn hml;have HM:=Ld hm;have HCN:=Ld hcn;have HPOS:=Ld hpos;have HFIT:=Ld hfit;have HONE:=Ld hone;have HBS:=Ld hbs;have HML:=Ld hml;clear hpt hes hx hTx hlk hle1 hP HT z3 hm hcn hpos hfit hone hbs hml Z3;go_upto_region 28 with fail
      go_region_law (refine step_copy_splice rfl (.tmp 105) (.tmp 111) 85 85 rfl 5 underlying85 Tryz.sizeU8 _ _ _ _ _ _ rfl rfl g0 P.length (z1m P T) 5 HB.out (Lib.byteCells n) HCN.out HPOS.out HFIT.out HONE.out w.heap.size w BL.out.drew hg0 ?_;intro w4 hg4 hb4)
      all_goals
       have HB4:Hid (Blk w4 g0 5 (z1m (P++n) T).toArray):=by
        have:=hg4.out;rw[HBS.out] at this;exact this
       have BL4:=Ld hb4;rw[HML.out];clear hg4 hb4 HB HBS HPOS HFIT HONE HCN BL;go_wp2_with fail;go_roundw
       case rel=>exact⟨k + 1,by omega,by rw[HPT.out,List.length_append,HM.out];go_num,by go_num,by show Blk _ _ _ _;rw[HPT.out];exact HB4.out,BL4.out⟩
       case measure=>simp[intOf];omega
    ·have:k=s.length:=by omega
     subst this;have hall:s.take s.length=s:=List.take_of_length_le (Lr);rw[hall] at HB;have hbf:z1m (Mk.put s) T=Lib.byteCells (Mk.put s):=by rw[← HTT.out];exact buf_full _
     have hbk:=HB.out;rw[hbf] at hbk;have hcv:=z0z (P:=prog) wr 85 9 5 underlying85 underlying5 underlying9 (base:=w.heap.size) (n:=T) (v:=.slice (some ⟨g0,0,none⟩) T T) (Mk.put s) ⟨by rw[q5j,HTT.out,Nat.mul_one],.inr ⟨g0,T,_,rfl,hg0,hbk,Lr,by show T≤9223372036854775807;omega,by rw[Nat.mul_one];show (Lib.byteCells (Mk.put s)).length=T;rw[Lib.byteCells_length,HTT.out],by rw[Nat.mul_one];show (Lib.byteCells (Mk.put s)).take T=bv (Mk.put s);rw[List.take_of_length_le (by rw[Lib.byteCells_length,HTT.out];exact Lr)];rfl⟩⟩;clear hall hbf hbk HB HT HTT;go_wp2_with fail;go_ret;exact⟨rfl,BL.out⟩
theorem z5e (s:List UInt8) (R g cap:Nat) (w:World) (hR:Blk w R 181 #[.int .u32 0,.int .i32 0,.int .u32 0,.nilIface,.slice (some ⟨g,0,none⟩) 8 cap]) (hgR:g ≠ R) (hgl:g < w.heap.size) (hA:∀ (j:Nat) (u:Value),(z09 Mk.olds)[j]? = some u→w.cell? ⟨g,j,none⟩=some u) (hl:s.length≤68719476736) :
  Calls prog 135 #[.pointer (some ⟨R,0,none⟩),.string (st s)] w fun e w'=>e=.returned (.string (st (Mk.put s)))∧Ap (fun x=>x=R) w w':=by
 have hRl:=Blk.lt hR;have hO:=z9i R g cap (w.setCell ⟨R,1,none⟩ (.int .i32 1)) (Blk.set_ hR 1 _) (by simpa [World.setCell] using hgl) (fun j u q=>(cell_of_block (Below.heap_setCell w ⟨R,1,none⟩ _ g hgR) j).trans (hA j u q));have HD:=Ld (rc_do R (OnceQ R (w.setCell ⟨R,1,none⟩ (.int .i32 1))) w (Blk.cell hR 0) (Blk.cell hR 1) (Blk.frozen hR 0) (Blk.frozen hR 1) (fun w1 ⟨N,q1,q2,q3,q4⟩=>⟨Blk.cell q2 0,Blk.cell q2 1,Blk.frozen q2 0,Blk.frozen q2 1⟩) hO);have HL:=Ld hl;clear hO hA hR hl;go_enter func135,ntmps135;go_wp2_with fail;refine HD.out.mono ?_;rintro e w2 ⟨rfl,w1,⟨N,hN,hR1,hrep,hap⟩,rfl⟩;have hs0:(w.setCell ⟨R,1,none⟩ (.int .i32 1)).heap.size=w.heap.size:=by simp[World.setCell]
 rw[hs0] at hN hrep;have hR2:=Blk.set_ (Blk.set_ (Blk.drew hR1) 0 (.int .u32 1)) 1 (.int .i32 0);have hrep2:RepB ((w1.drew.setCell ⟨R,0,none⟩ (.int .u32 1)).setCell ⟨R,1,none⟩ (.int .i32 0)) w.heap.size N 0:=hrep.frame (fun b q1 q2=>by
  rw[Below.heap_setCell _ ⟨R,1,none⟩ _ b (by show b ≠ R;omega),Below.heap_setCell _ ⟨R,0,none⟩ _ b (by show b ≠ R;omega)];rfl) (by simp[World.setCell]) hN
 have hap2:Ap (fun x=>x=R) w ((w1.drew.setCell ⟨R,0,none⟩ (.int .u32 1)).setCell ⟨R,1,none⟩ (.int .i32 0)):=(((((Ap.refl (fun x=>x=R) w).setCell (p:=⟨R,1,none⟩) rfl (.int .i32 1)).trans hap).drew).setCell (p:=⟨R,0,none⟩) rfl _).setCell (p:=⟨R,1,none⟩) rfl _;generalize ((w1.drew.setCell ⟨R,0,none⟩ (.int .u32 1)).setCell ⟨R,1,none⟩ (.int .i32 0))=w3 at hR2 hrep2 hap2 ⊢;have c3:w3.cell? ⟨R,3,none⟩=some (.iface 215 (.pointer (some ⟨N,0,none⟩))):=Blk.cell hR2 3;have HS:=Ld (j2q s w.heap.size N w3 hrep2 HL.out);have HAP:=Ld hap2;clear hR1 hrep hap hR2 hrep2 hap2 hs0 HD HL;go_wp2_with fail;refine HS.out.mono ?_;rintro e w4 ⟨rfl,hb4⟩;have HAP4:=Ld (HAP.out.trans (Ap.of_below (S:=fun x=>x=R) hb4));clear hb4 HS HAP;go_wp2_with fail;go_ret;exact⟨rfl,HAP4.out⟩
theorem j1e (s:List UInt8) (w:World) (hl:s.length≤68719476736) :
  Calls prog 104 #[.string (st s)] w fun e w'=>e=.returned (.string (st (Mk.put s)))∧Below w.heap.size w w':=by
 have hnew:=z6x w.heap.size (w.alloc (.cells (z09 Mk.olds).toArray 9)) (Y9 w 9 (z09 Mk.olds).toArray);have hal:=(Below.refl w.heap.size w).alloc (Lr) (.cells (z09 Mk.olds).toArray 9);have HN:=Ld hnew;have HAL:=Ld hal;have HL:=Ld hl;clear hnew hal hl;go_enter func104,ntmps104;go_wp2_with fail;refine HN.out.mono ?_;rintro e w2 ⟨R,ao,cap,rfl,hRl,hR,hown,hoR,hb2⟩
 rcases hown.2 with ⟨_,q⟩ | ⟨g,cap',cur,hv,hbg,hh,hnc,hcm,hcs,ht⟩
 ·cases q
 ·injection hv with e1 e2 e3
  subst e1;subst e3;have hcl:=hown.cells (g:=g) rfl;have hgl:=(hown.lt g rfl).2;have HR:=Ld (z5e s R g cap w2 hR (fun e=>hoR (by rw[← e];rfl)) hgl (fun j u q=>by have:=hcl j u q;rwa [show (⟨g,0,none⟩:Addr).add j=⟨g,j,none⟩ by unfold Addr.add;split <;> simp_all] at this) HL.out);have HB2:=Ld (HAL.out.trans (hb2.mono HAL.out.size));have hRw:w.heap.size≤R:=Nat.le_trans HAL.out.size hRl;clear hR hown hoR hcl hb2 HN HL hh hcs ht;go_wp2_with fail;refine HR.out.mono ?_;rintro e w3 ⟨rfl,ha3⟩;have HB3:=Ld (HB2.out.trans (ha3.below HB2.out.size (fun k q1 q2=>by omega)));clear ha3 HR;go_wp2_with fail;go_ret;exact⟨rfl,HB3.out⟩
theorem q15 (s:List UInt8) (w:World) (hl:s.length≤68719476736) :
  Calls prog 69 #[.string (st s)] w fun e w'=>e=.returned (.string (st (Mk.put s)))∧Below w.heap.size w w':=by
 have HP:=Ld (j1e s w hl);clear hl;go_enter func69,ntmps69;go_wp2_with fail;refine HP.out.mono ?_;rintro e w2 ⟨rfl,hb2⟩;have HB:=Ld hb2;clear hb2 HP;go_wp2_with fail;go_ret;exact⟨rfl,HB.out⟩
theorem q1w (s:List UInt8) (hl:s.length≤68719476736):j0c s:=fun W=>q15 s W hl
end Go.Proofs.YtagleefekmdldaaGreatDoor
