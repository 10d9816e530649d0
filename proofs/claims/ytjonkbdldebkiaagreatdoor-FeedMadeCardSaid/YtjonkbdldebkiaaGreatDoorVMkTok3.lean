/- Contract of the token reader's method attrs. Condition: a text of at most 1048576 bytes. -/
import Derived.Test.YtjonkbdldebkiaaGreatDoorVMkTok2
import Derived.Test.YtjonkbdldebkiaaGreatDoorVMkFn
import Derived.Test.YtjonkbdldebkiaaGreatDoorVUrlD
import Derived.Deep.RegionHeld3
import Derived.Test.YtjonkbdldebkiaaGreatDoorVUrlPlain
set_option linter.unusedVariables false
set_option linter.unusedSimpArgs false
set_option maxHeartbeats 4000000
set_option maxRecDepth 100000
namespace Mk
def sepB (c:UInt8):Bool:=white c || c == 47
theorem dropWhile_le (q:UInt8→Bool) (l:Bs):(l.dropWhile q).length≤l.length:=(List.dropWhile_sublist q).length_le
theorem j3u {r v u:Bs} (h:valueOf r=some (v,u)):u.length≤r.length:=by
 have h0:=dropWhile_le white r;unfold valueOf at h
 split at h
 ·injection h with h;injection h with h1 h2;subst h2;exact Nat.zero_le _
 ·rename_i q t hd
  rw[hd] at h0
  split at h
  ·split at h
   ·cases h
   ·rename_i x u' hu
    injection h with h;injection h with h1 h2;subst h2;have:=dropWhile_le (· != q) t;rw[hu] at this;simp at this h0;omega
  ·injection h with h;injection h with h1 h2;subst h2
   exact Nat.le_trans (dropWhile_le _ _) h0
theorem q7e {r v u:Bs} (h:valueOf r=some (v,u)):v.length≤r.length:=by
 have h0:=dropWhile_le white r;unfold valueOf at h
 split at h
 ·injection h with h;injection h with h1 h2;subst h1;exact Nat.zero_le _
 ·rename_i q t hd
  rw[hd] at h0
  split at h
  ·split at h
   ·cases h
   ·injection h with h;injection h with h1 h2;subst h1
    have:=z2r (· != q) t;simp at this h0 ⊢;omega
  ·injection h with h;injection h with h1 h2;subst h1
   exact Nat.le_trans (z2r _ _) h0
def z4w (r3:Bs):Option (Bs × Bs):=if Mg.isAt 61 r3 then (valueOf r3.tail).map (fun x=>((take x.1).1,x.2)) else some ([],r3)
theorem q1f {r v u:Bs} (h:z4w r=some (v,u)):u.length≤r.length:=by
 unfold z4w at h
 split at h
 ·cases hv:valueOf r.tail with
  | none=>rw[hv] at h;cases h
  | some x =>
   rw[hv] at h;injection h with h;have h1:x.2=u:=congrArg Prod.snd h;have h2:=j3u (v:=x.1) (u:=x.2) hv;rw[h1,List.length_tail] at h2;omega
 ·injection h with h;injection h with h1 h2;subst h2;exact Lr
def q1d (nm v:Bs) (out:List At):List At:=if isName nm && !z4m out nm then out++[⟨nm,v⟩] else out
theorem z5h (n:Nat) (r:Bs) (out:List At):z0o (n + 1) r out=(match r.dropWhile sepB with
  | []=>none
  | c :: t=>if c=62 then some (out,t) else
   match z4w ((t.dropWhile z0j).dropWhile white) with
   | none=>none
   | some (v,r4)=>z0o n r4 (q1d (Mg.fold (c :: t.takeWhile z0j)) v out)):=by
 rfl
theorem z5g:∀ (n m:Nat) (r:Bs) (out:List At),r.length < n→r.length < m→z0o n r out=z0o m r out:=by
 intro n
 induction n with
 | zero=>intro m r out h _;omega
 | succ n ih =>
  intro m r out h hm
  cases m with
  | zero=>omega
  | succ m =>
   rw[z5h,z5h];have h0:=dropWhile_le sepB r
   cases hd:r.dropWhile sepB with
   | nil=>rfl
   | cons c t =>
    rw[hd,List.length_cons] at h0;simp only
    split
    ·rfl
    cases hr:z4w ((t.dropWhile z0j).dropWhile white) with
    | none=>rfl
    | some x =>
     obtain⟨v,r4⟩:=x;have h1:=q1f hr;have h2:=dropWhile_le white (t.dropWhile z0j);have h3:=dropWhile_le z0j t;exact ih m r4 _ (by omega) (by omega)
def q0k (r:Bs) (out:List At):Option (List At × Bs):=z0o (r.length + 1) r out
theorem j4j (r:Bs) (out:List At):q0k r out=(match r.dropWhile sepB with
  | []=>none
  | c :: t=>if c=62 then some (out,t) else
   match z4w ((t.dropWhile z0j).dropWhile white) with
   | none=>none
   | some (v,r4)=>q0k r4 (q1d (Mg.fold (c :: t.takeWhile z0j)) v out)):=by
 unfold q0k;rw[z5h];have h0:=dropWhile_le sepB r
 cases hd:r.dropWhile sepB with
 | nil=>rfl
 | cons c t =>
  rw[hd,List.length_cons] at h0;simp only
  split
  ·rfl
  cases hr:z4w ((t.dropWhile z0j).dropWhile white) with
  | none=>rfl
  | some x =>
   obtain⟨v,r4⟩:=x;have h1:=q1f hr;have h2:=dropWhile_le white (t.dropWhile z0j);have h3:=dropWhile_le z0j t;exact z5g _ _ r4 _ (by omega) (by omega)
end Mk
namespace Go.Proofs.YtjonkbdldebkiaaGreatDoor
open Go.Proofs.Tryz Go.RowKit
theorem q7r (P:Nat) (nm:List UInt8) (l:List Mk.At) (w:World) (hP:P < w.heap.size) (hc:w.cell? ⟨P,0,none⟩=some (.string (st nm))):q5m 294 #[.pointer (some ⟨P,0,none⟩)] (fun a=>a.n == nm) l w:=by
 intro w1 hb a _;have c0:w1.cell? ⟨P,0,none⟩=some (.string (st nm)):=(hb.cell (p:=⟨P,0,none⟩) hP).trans hc;have hP1:P < w1.heap.size:=Nat.lt_of_lt_of_le hP hb.size;unfold atV;go_enter func294,ntmps294;go_wp2_with fail;go_ret;exact⟨Z8 (by rw[show (st a.n).toList=a.n from Lib.toList_data _,show (st nm).toList=nm from Lib.toList_data _]),(Below.refl _ w1).alloc (Lr) _⟩
theorem j5l (args:Array Value) (w:World):(callFunc 294 args).run prog w=.ok (.enter 294 args) w:=Z7 func294 (by kernel_rfl) rfl _ _
theorem Gl.ap {S:Nat→Prop} {w w':World} (h:Gl w) (ha:Ap S w w') (h0:¬ S 0) (h1:¬ S 4):Gl w':=by
 have hlt:=h.lt;obtain⟨m,hm⟩:=h.ml;obtain⟨ev,he,hv⟩:=h.es;exact⟨⟨m,(cell_of_block (ha.block 0 (by omega) h0) 0).trans hm⟩,ev,(cell_of_block (ha.block 4 hlt h1) 0).trans he,hv⟩
theorem z2g {S:Nat→Prop} {w w':World} {B size n:Nat} {e:TypeId} {v:Value} {xs:List Value} (h:w.ownsRow B e size v n xs) (ha:Ap S w w') (hS:∀ g,B≤g→¬ S g):w'.ownsRow B e size v n xs:=by
 refine⟨h.1,h.2.imp id ?_⟩;rintro ⟨g,cap,cur,h1,h2,h3,h4⟩;have hlt:g < w.heap.size:=by
  rcases Nat.lt_or_ge g w.heap.size with h' | h'
  ·exact h'
  ·rw[Array.getElem?_eq_none h'] at h3;cases h3
 exact⟨g,cap,cur,h1,h2,(ha.block g hlt (hS g h2)).trans h3,h4⟩
theorem Tryz.infoAttr:(prog.info? 56).map (fun i=>(i.zero,i.size,i.bytes))=some (some (.agg #[.string ⟨#[]⟩,.string ⟨#[]⟩]),2,32):=by kernel_rfl
theorem z0h (w:World) (t:TypeId) (cs:Array Value) (j:Nat) (u:Value) (h:cs.toList[j]? = some u):(w.alloc (.cells cs t)).cell? ((⟨w.heap.size,0,none⟩:Addr).add j)=some u:=by
 have e1:(⟨w.heap.size,0,none⟩:Addr).add j=⟨w.heap.size,j,none⟩:=by unfold Addr.add;split <;> simp_all
 rw[e1,Blk.cell (Blk.new w t cs) j,← h];simp
theorem j5v (l:List UInt8):Mk.z8j (fun c=>c == 61) l=Mg.isAt 61 l:=by cases l <;> rfl
theorem Blk.ap {S:Nat→Prop} {w w':World} {g:Nat} {t:TypeId} {cs:Array Value} (h:Blk w g t cs) (ha:Ap S w w') (hS:¬ S g):Blk w' g t cs:=(ha.block g h.lt hS).trans h
theorem Ap.setNew {S:Nat→Prop} {a b:World} (h:Ap S a b) {p:Addr} (hp:a.heap.size≤p.block) (v:Value):Ap S a (b.setCell p v) :=
 ⟨h.os,h.tape,h.output,by have:=h.size;simpa [World.setCell] using this,fun k hk hs=>(Below.heap_setCell b p v k (by omega)).trans (h.block k hk hs)⟩
section
variable {w : World} {R : Nat} {s : ByteArray} {k : Nat} {tx : List UInt8} {ov : Value}
theorem rd_attrs (hg:Gl w) (hR:4 < R) (h:Rd w R s k tx ov) (hk:k≤s.size) (hs:s.size≤1048576) :
  Calls prog 271 #[.pointer (some ⟨R,0,none⟩)] w fun e w' =>
   (Mk.z5i (s.data.toList.drop k)=none∧e=Gave∧(∃ j,Rd w' R s j tx ov)∧Ap (fun b=>b=R) w w') ∨
   ∃ l r j v,Mk.z5i (s.data.toList.drop k)=some (l,r)∧e=.returned v∧w'.ownsRow w.heap.size 56 2 v l.length (Y8 l)∧j≤s.size∧k < j∧l.length≤s.size∧r=s.data.toList.drop j∧Rd w' R s j tx ov∧Ap (fun b=>b=R) w w':=by
 have hRlt:=Blk.lt h;have hglt:=hg.lt;have hR0:¬ ((fun b=>b=R) 0):=by intro e;have e:(0:Nat)=R:=e;omega
 have hR1:¬ ((fun b=>b=R) 4):=by intro e;have e:(4:Nat)=R:=e;omega
 have hBR:∀ g,w.heap.size≤g→¬ ((fun b=>b=R) g):=by intro g hg' e;have e:g=R:=e;omega
 have HBR:=Ld hBR;clear hBR;go_enter func271,ntmps271;go_wp2_with fail
 go_loopw [3] (fun o wr=>∃ j out,k≤j∧j≤s.size∧out.length≤j∧Hid (Mk.z5i (s.data.toList.drop k)=Mk.q0k (s.data.toList.drop j) out)∧Hid (Rd wr R s j tx ov)∧Hid (Ap (fun b=>b=R) w wr)∧Hid (wr.ownsRow w.heap.size 56 2 o out.length (Y8 out))) (fun _ wr=>s.size - atOf wr R)
 case atStart=>exact⟨k,[],Lr,hk,Nat.zero_le _,rfl,h,Ap.refl _ _,World.ownsRow_nil _ _ _ _⟩
 case round =>
  obtain⟨j,out,hkj,hj,hol,HA,RD,AP,OW⟩:=hrel;have hatj:=RD.out.atOf;have HATJ:=Ld hatj;clear hatj;have hsz:=AP.out.size;have e1:=adv s j Mk.sepB;have l1:=z6d s j hj Mk.sepB;have HP:=Ld (z4o 289 #[] Mk.sepB j5i RD.out hj hs (fun w' _=>q7o w'));obtain⟨j1,hj1⟩:∃ j1,j1=j + ((s.data.toList.drop j).takeWhile Mk.sepB).length:=⟨_,rfl⟩;rw[← hj1] at e1 l1 HP;have hjj1:j≤j1:=by omega
  rw[Mk.j4j,← e1] at HA;clear e1 hj1
  rcases Nat.lt_or_ge j1 s.size with hlt | hge
  ·rw[z09 s j1 hlt] at HA
   obtain⟨c,hc⟩:∃ c:UInt8,s[j1]=c:=⟨_,rfl⟩;rw[hc] at HA;have HCC:=Ld hc;clear hc;simp only at HA;go_wp2_with fail;refine HP.out.mono ?_;rintro e w1 ⟨rfl,RD1,MV1⟩;have AP1:=AP.out.trans MV1.ap;have hn:=z9d RD1 hlt hs;rw[HCC.out] at hn;have hb:(c.toNat:Int)≤255:=by have:=c.toNat_lt;omega
   by_cases h62:c=62
   ·subst h62
    rw[if_pos rfl] at HA;have HN:=Ld hn;clear hn;go_wp2_with fail;refine HN.out.mono ?_;rintro e w2 ⟨rfl,RD2,MV2⟩;have OW2:=Ld (z2g (z2g OW.out MV1.ap HBR.out) MV2.ap HBR.out);have AP2:=Ld (AP1.trans MV2.ap);go_wp2_with fail;go_ret;exact .inr ⟨out,_,j1 + 1,_,HA.out,rfl,OW2.out,hlt,by omega,by omega,rfl,RD2,AP2.out⟩
   ·have hne:((c.toNat:Int) == 62)=false:=by rw[beq_eq_false_iff_ne];intro e;exact h62 (UInt8.toNat_inj.1 (by show c.toNat=62;omega))
    rw[if_neg h62] at HA;have HN:=Ld hn;clear hn;go_wp2_with fail;refine HN.out.mono ?_;rintro e w2 ⟨rfl,RD2,MV2⟩;have d1:=RD2.c1;go_wp2_with fail;have e2:=adv s (j1 + 1) Mk.z0j;have l2:=z6d s (j1 + 1) hlt Mk.z0j;have hp2:=z4o 291 #[] Mk.z0j j5j RD2 hlt hs (fun w' _=>q7p w');obtain⟨j2,hj2⟩:∃ j2,j2=j1 + 1 + ((s.data.toList.drop (j1 + 1)).takeWhile Mk.z0j).length:=⟨_,rfl⟩;have hnm:(s.extract j1 j2).data.toList=c :: (s.data.toList.drop (j1 + 1)).takeWhile Mk.z0j:=by
     rw[Y1,z1o,z09 s j1 hlt,HCC.out,show j2 - j1=((s.data.toList.drop (j1 + 1)).takeWhile Mk.z0j).length + 1 by omega,List.take_succ_cons]
     congr 1
     exact(List.prefix_iff_eq_take.1 (List.takeWhile_prefix _)).symm
    rw[← hj2] at e2 l2 hp2;have hjj2:j1 + 1≤j2:=by omega
    rw[← e2,← hnm] at HA;have HNM:=Ld hnm;clear e2 hj2 hnm HP HN;refine hp2.mono ?_;rintro e w3 ⟨rfl,RD3,MV3⟩;have AP3:=(AP1.trans MV2.ap).trans MV3.ap;have OW3:=Ld (z2g (z2g (z2g OW.out MV1.ap HBR.out) MV2.ap HBR.out) MV3.ap HBR.out);clear OW;have hlt3:R < w3.heap.size:=Blk.lt RD3;have hsz3:w.heap.size≤w3.heap.size:=AP3.size;clear RD1 RD2 MV1 MV2 MV3 AP1 hp2 d1;have d0:=RD3.c0;have d1:=RD3.c1;have hle1:(j1:Int)≤j2:=by omega
    have hle2:(j2:Int)≤s.size:=by omega
    have hfo:=fun W=>q1b (s.extract j1 j2) W (by rw[← bs_len,Y1,z1o,List.length_take,List.length_drop,bs_len];omega)
    have HFO:=Ld hfo;clear hfo;go_upto_region 7 with fail;obtain⟨nm,hnm⟩:∃ nm,Mg.fold (s.extract j1 j2).data.toList=nm:=⟨_,rfl⟩;rw[hnm] at HA HFO;have hnml:nm.length≤1048576:=by
     have:=HNM.out;rw[← hnm,Mg.fold,List.length_map,Y1,z1o,List.length_take,List.length_drop,bs_len];omega
    clear HNM hnm
    go_cut [5] (fun p wx=>∃ P,p=.pointer (some ⟨P,0,none⟩)∧w.heap.size≤P∧u3.ownBlock ≠ some P∧Hid (wx.ownsRow w.heap.size 56 2 u3 out.length (Y8 out))∧Hid (Blk wx P 56 #[.string (st nm),.string ⟨#[]⟩])∧Hid (Ap (fun b=>b=R) w wx)∧Hid (Rd wx R s j2 tx ov))
    case first =>
     have hk2:∀ W,Below (R + 1) w3.drew W→W.cell? ⟨R,0,none⟩=some (.string s)∧W.cell? ⟨R,1,none⟩=some (.int .i64 j2):=fun W hW=>⟨(hW.cell (p:=⟨R,0,none⟩) (Nat.lt_succ_self R)).trans d0,(hW.cell (p:=⟨R,1,none⟩) (Nat.lt_succ_self R)).trans d1⟩
     have hlt4:R + 1≤w3.drew.heap.size:=hlt3;have HK2:=Ld hk2;clear hk2
     go_region_held3 (fun w'=>w'.cell? ⟨R,0,none⟩=some (.string s)∧w'.cell? ⟨R,1,none⟩=some (.int .i64 j2)) (first
      | exact HK2.out _ (Below.refl _ _)
      | exact HK2.out _ (hb7.mono hlt4)
      | exact HK2.out _ ((hb7.mono hlt4).alloc (Nat.le_trans hlt4 hb7.size) _)
      | exact HK2.out _ ((Below.refl _ _).alloc hlt4 _)
      | exact HK2.out _ (((Below.refl _ _).alloc hlt4 _).trans (hb7.mono (Nat.le_trans hlt4 (by simp))))
      | exact HK2.out _ (((((Below.refl _ _).alloc hlt4 _).trans (hb7.mono (Nat.le_trans hlt4 (by simp)))).setCell (p:=⟨w3.heap.size,0,none⟩) hlt4 _).setCell (p:=⟨w3.heap.size,1,none⟩) hlt4 _)
      | fail "NO KEEP") (first | (go_at_call 269; refine (HFO.out _).mono ?_; rintro e w7 ⟨rfl, hb7⟩; (try have n0 : w7.cell? ⟨w3.heap.size, 0, none⟩ = some (.string ⟨#[]⟩) := (hb7.cell (p := ⟨w3.heap.size, 0, none⟩) (by simp)).trans (Blk.cell (Blk.new w3.drew _ _) 0)); (try have n1 : w7.cell? ⟨w3.heap.size, 1, none⟩ = some (.string ⟨#[]⟩) := (hb7.cell (p := ⟨w3.heap.size, 1, none⟩) (by simp)).trans (Blk.cell (Blk.new w3.drew _ _) 1)); (try have nf0 : w7.frozen? ⟨w3.heap.size, 0, none⟩ = false := (hb7.frozen (p := ⟨w3.heap.size, 0, none⟩) (by simp)).trans (Blk.frozen (Blk.new w3.drew 56 #[.string ⟨#[]⟩, .string ⟨#[]⟩]) 0)); (try have nf1 : w7.frozen? ⟨w3.heap.size, 1, none⟩ = false := (hb7.frozen (p := ⟨w3.heap.size, 1, none⟩) (by simp)).trans (Blk.frozen (Blk.new w3.drew 56 #[.string ⟨#[]⟩, .string ⟨#[]⟩]) 1))))
     ·have a7:Ap (fun b=>b=R) w w7:=(AP3.drew).trans (Ap.of_below hb7)
      have r7:Rd w7 R s j2 tx ov:=(hb7.block R hlt3).trans RD3;have r8:w.heap.size≤w7.heap.size:=a7.size;have a8:Ap (fun b=>b=R) w3 w7:=((Ap.refl _ w3).drew).trans (Ap.of_below hb7);have ow8:=z2g OW3.out a8 HBR.out;have ob8:u3.ownBlock ≠ some w7.heap.size:=fun e=>by have:=(ow8.lt _ e).2;omega
      have ow9:=Ld (z2g ow8 ((Ap.refl (fun b=>b=R) w7).alloc (.cells #[.string (st nm),.string ⟨#[]⟩] 56)) HBR.out);have ob8:=Ld ob8;clear ow8;go_wp2_with fail;go_meet
      case rel=>exact⟨w7.heap.size,rfl,r8,ob8.out,ow9,Blk.new w7 _ _,a7.alloc _,Blk.alloc r7 _⟩
     ·have a7:Ap (fun b=>b=R) w w7:=((AP3.alloc (.cells #[.string ⟨#[]⟩,.string ⟨#[]⟩] 56)).drew).trans (Ap.of_below hb7)
      have r7:Rd w7 R s j2 tx ov:=(hb7.block R (by simp;omega)).trans (Blk.alloc RD3 (.cells #[.string ⟨#[]⟩,.string ⟨#[]⟩] 56));have b7:Blk w7 w3.heap.size 56 #[.string ⟨#[]⟩,.string ⟨#[]⟩]:=(hb7.block w3.heap.size (by simp)).trans (Blk.new w3 _ _);have hne3:R ≠ w3.heap.size:=by omega
      have a8:Ap (fun b=>b=R) w3 w7:=(((Ap.refl _ w3).alloc (.cells #[.string ⟨#[]⟩,.string ⟨#[]⟩] 56)).drew).trans (Ap.of_below hb7);have ob8:u3.ownBlock ≠ some w3.heap.size:=fun e=>by have:=(OW3.out.lt _ e).2;omega
      have ow9:=Ld (ownsRow_setCell_other (ownsRow_setCell_other (z2g OW3.out a8 HBR.out) (a:=⟨w3.heap.size,0,none⟩) ob8 (.string (st nm))) (a:=⟨w3.heap.size,1,none⟩) ob8 (.string ⟨#[]⟩));have ob8:=Ld ob8;go_wp2_with fail;go_meet
      case rel=>exact⟨w3.heap.size,rfl,hsz3,ob8.out,ow9,(b7.set_ 0 _).set_ 1 _,(a7.setNew (p:=⟨w3.heap.size,0,none⟩) hsz3 _).setNew (p:=⟨w3.heap.size,1,none⟩) hsz3 _,Blk.far (Blk.far r7 (p:=⟨w3.heap.size,0,none⟩) hne3 _) (p:=⟨w3.heap.size,1,none⟩) hne3 _⟩
    case rest =>
     obtain⟨P,rfl,hP,hOP,OWx,PB,APx,RDx⟩:=hcut;have HOP:=Ld hOP;clear hOP OW3;have hPR:P ≠ R:=by omega
     have e3:=adv s j2 Mk.white;have l3:=z6d s j2 l2 Mk.white;have hp3:=z4o 158 #[] Mk.white q4d RDx.out l2 hs (fun w' _=>z8y w');obtain⟨j3,hj3⟩:∃ j3,j3=j2 + ((s.data.toList.drop j2).takeWhile Mk.white).length:=⟨_,rfl⟩;rw[← hj3] at e3 l3 hp3;have hjj3:j2≤j3:=by omega
     rw[← e3] at HA;have HP3:=Ld hp3;clear e3 hj3 hp3 d0 d1 RD3 AP3 hlt3 hsz3 hle1 hle2 HFO;go_wp2_with fail;refine HP3.out.mono ?_;rintro e w5 ⟨rfl,RD5,MV5⟩;have AP5:=Ld (APx.out.trans MV5.ap);have PB5:=Ld (PB.out.ap MV5.ap hPR);have RD5:=Ld RD5;have OW5:=Ld (z2g OWx.out MV5.ap HBR.out);clear OWx HP3 MV5 PB APx RDx;have hh:=fun n=>q53 292 #[] (fun c=>c == 61) j5k (RD5.out.drewN n) (fun m=>q7q _)
     rw[j5v] at hh;have HH:=Ld hh;clear hh;obtain⟨bb,hbb⟩:∃ bb,Mg.isAt 61 (s.data.toList.drop j3)=bb:=⟨_,rfl⟩;rw[hbb] at HH;have HBB:=Ld hbb;clear hbb;go_wp2_with fail;refine(HH.out 0).mono ?_;rintro e w6 ⟨rfl,n,rfl⟩;have AP6:Hid (Ap (fun b=>b=R) w (((w5).drewN 0).drewN n)):=AP5.out.drewN n;have PB6:Hid (Blk (((w5).drewN 0).drewN n) P 56 #[.string (st nm),.string ⟨#[]⟩]):=PB5.out;have RD6:Hid (Rd (((w5).drewN 0).drewN n) R s j3 tx ov):=RD5.out;have OW6:Hid ((((w5).drewN 0).drewN n).ownsRow w.heap.size 56 2 u3 out.length (Y8 out)):=OW5.out;generalize (((w5).drewN 0).drewN n)=w6 at AP6 PB6 RD6 OW6 ⊢;clear OW5;clear HH AP5 PB5 RD5;go_upto_if 34 with fail
     go_cut [34] (fun _ wx=>∃ j4 v,j3≤j4∧j4≤s.size∧Hid (wx.ownsRow w.heap.size 56 2 u3 out.length (Y8 out))∧Hid (Mk.z4w (s.data.toList.drop j3)=some (v,s.data.toList.drop j4))∧Hid (Blk wx P 56 #[.string (st nm),.string (st v)])∧Hid (Ap (fun b=>b=R) w wx)∧Hid (Rd wx R s j4 tx ov))
     case first =>
      cases bb with
      | false =>
       have HR:Hid (Mk.z4w (s.data.toList.drop j3)=some ([],s.data.toList.drop j3)):=by show _=_;rw[Mk.z4w,HBB.out];rfl
       clear HBB;go_wp2_with fail;go_meet
       case rel=>exact⟨j3,[],Lr,l3,OW6,HR,PB6,AP6,RD6⟩
      | true =>
       have hlt5:j3 < s.size:=by
        rcases Nat.lt_or_ge j3 s.size with h1 | h1
        ·exact h1
        ·have:=HBB.out;rw[List.drop_of_length_le (by simp;omega)] at this;cases this
       have HR:Hid (Mk.z4w (s.data.toList.drop j3)=(Mk.valueOf (s.data.toList.drop (j3 + 1))).map (fun x=>((Mk.take x.1).1,x.2))):=by show _=_;rw[Mk.z4w,HBB.out,if_pos rfl,List.tail_drop]
       clear HBB;have c1:=RD6.out.c1;have f1:=RD6.out.fz 1;go_wp2_with fail;have RD7:Hid (Rd (w6.setCell ⟨R,1,none⟩ (.int .i64 ((j3:Int) + 1))) R s (j3 + 1) tx ov):=by show Rd _ _ _ _ _ _;have:=RD6.out.at_ (j3 + 1);simpa using this
       have AP7:Hid (Ap (fun b=>b=R) w (w6.setCell ⟨R,1,none⟩ (.int .i64 ((j3:Int) + 1)))):=AP6.out.setCell (p:=⟨R,1,none⟩) rfl _;have PB7:Hid (Blk (w6.setCell ⟨R,1,none⟩ (.int .i64 ((j3:Int) + 1))) P 56 #[.string (st nm),.string ⟨#[]⟩]):=PB6.out.far (p:=⟨R,1,none⟩) hPR _;have OW7:Hid ((w6.setCell ⟨R,1,none⟩ (.int .i64 ((j3:Int) + 1))).ownsRow w.heap.size 56 2 u3 out.length (Y8 out)):=z2g OW6.out ((Ap.refl (fun b=>b=R) w6).setCell (p:=⟨R,1,none⟩) rfl _) HBR.out;generalize (w6.setCell ⟨R,1,none⟩ (.int .i64 ((j3:Int) + 1)))=w7 at RD7 AP7 PB7 OW7 ⊢;clear OW6;clear RD6 AP6 PB6 c1 f1;refine(rd_value RD7.out (by omega) hs).mono ?_;rintro e w8 (⟨hvn,rfl,⟨jj,hrd8⟩,ha8⟩ | ⟨v,r,j4,hvs,rfl,hj4s,hj4,hr,hrd8,ha8⟩)
       ·rw[HR.out,hvn] at HA
        have HA2:Hid (Mk.z5i (s.data.toList.drop k)=none):=HA;have AP8:=Ld (AP7.out.trans ha8);clear HA HR RD7 AP7 PB7 hvn ha8 OW7 RD AP HATJ;go_wp2_with fail;exact⟨rfl,.inl ⟨HA2.out,rfl,⟨_,hrd8⟩,AP8.out⟩⟩
       ·have hvl:=Mk.q7e hvs
        rw[List.length_drop,bs_len] at hvl;have HR2:Hid (Mk.z4w (s.data.toList.drop j3)=some ((Mk.take v).1,s.data.toList.drop j4)):=by show _=_;rw[HR.out,hvs,hr];rfl
        have AP8:=Ld (AP7.out.trans ha8);have PB8:=Ld (Blk.ap PB7.out ha8 hPR);have OW8:=Ld (z2g OW7.out ha8 HBR.out);have RD8:=Ld hrd8;have hg8:=hg.ap AP8.out hR0 hR1;have ht:=q0v (st v) w8 (by rw[Z4];omega) hg8;rw[z1o] at ht;have HT:=Ld ht;clear HR RD7 AP7 PB7 hvs ha8 hrd8 hr ht hg8;go_wp2_with fail;refine HT.out.mono ?_;rintro e w9 ⟨rfl,hb9⟩;have a9:Ap (fun b=>b=R) w8 w9:=Ap.of_below hb9;have RD9:=Ld ((hb9.block R (Blk.lt RD8.out)).trans RD8.out:Rd w9 R s j4 tx ov);have PB9:=Ld ((hb9.block P (Blk.lt PB8.out)).trans PB8.out:Blk w9 P 56 #[.string (st nm),.string ⟨#[]⟩]);have AP9:=Ld (AP8.out.trans a9);have OW9:=Ld (ownsRow_setCell_other (z2g OW8.out a9 HBR.out) (a:=⟨P,1,none⟩) HOP.out (.string (st (Mk.take v).1)));clear OW7 OW8;have c9:w9.cell? ⟨P,1,none⟩=some (.string ⟨#[]⟩):=Blk.cell PB9.out 1;have f9:=Blk.frozen PB9.out 1;clear HT hb9 a9 RD8 PB8 AP8;go_wp2_with fail;go_meet
        case rel=>exact⟨j4,(Mk.take v).1,by omega,hj4s,OW9,HR2,Blk.set_ PB9.out 1 _,AP9.out.setNew (p:=⟨P,1,none⟩) hP _,Blk.far RD9.out (p:=⟨P,1,none⟩) (fun e=>hPR e.symm) _⟩
     case rest =>
      obtain⟨j4,v,hj4,hj4s,OW7,HR,PB7,AP7,RD7⟩:=hcut;rw[HR.out] at HA;simp only at HA;clear HR OW6 PB6 AP6 RD6 HBB;have hsz7:=AP7.out.size;have c70:wc.cell? ⟨P,0,none⟩=some (.string (st nm)):=Blk.cell PB7.out 0;have hN:=fun W=>q8e (st nm) W (by rw[Z4];omega)
      rw[z1o] at hN
      cases hin:Mk.isName nm with
      | false =>
       have HA2:Hid (Mk.z5i (s.data.toList.drop k)=Mk.q0k (s.data.toList.drop j4) out):=by show _=_;rw[HA.out,Mk.q1d,hin];rfl
       rw[hin] at hN;have HN:=Ld hN;clear hN hin HA;go_wp2_with fail;refine(HN.out _).mono ?_;rintro e w8 ⟨rfl,rfl⟩;go_wp2_with fail;go_roundw
       case rel=>exact⟨j4,out,by omega,hj4s,by omega,HA2,RD7,AP7,OW7⟩
       case measure=>have e1:=HATJ.out;have e2:=RD7.out.atOf;rw[e1,e2];omega
      | true =>
       rw[hin] at hN;have HN:=Ld hN;clear hN;obtain⟨hs2,hhs2⟩:∃ b,Mk.z4m out nm=b:=⟨_,rfl⟩;have hPlt:P < wc.heap.size:=Blk.lt PB7.out;have hcf:=z2c 294 #[.pointer (some ⟨P,0,none⟩)] (fun a=>a.n == nm) j5l out u3 (fun b=>b < wc.heap.size) wc (AtsV.of_own OW7.out (fun g hg'=>(OW7.out.lt g hg').2)) (fun _ hb'=>hb') (by omega) (q7r P nm out wc hPlt c70);rw[show out.any (fun a=>a.n == nm)=hs2 from hhs2] at hcf;have HCF:=Ld hcf;clear hcf
       cases hs2 with
       | true =>
        have HA2:Hid (Mk.z5i (s.data.toList.drop k)=Mk.q0k (s.data.toList.drop j4) out):=by show _=_;rw[HA.out,Mk.q1d,hin,hhs2];rfl
        clear hin HA hhs2;go_wp2_with fail;refine(HN.out _).mono ?_;rintro e w8 ⟨rfl,rfl⟩;go_wp2_with fail;refine HCF.out.mono ?_;rintro e w9 ⟨rfl,hb9⟩;have a9:Ap (fun b=>b=R) w8 w9:=Ap.of_below hb9;have RD9:=Ld (Rd.ap_far RD7.out (Ap.of_below (S:=fun _=>False) hb9) (fun h=>h));have AP9:=Ld (AP7.out.trans a9);have OW9:=Ld (z2g OW7.out a9 HBR.out);clear a9 hb9 OW7 AP7 RD7 PB7;go_wp2_with fail;go_roundw
        case rel=>exact⟨j4,out,by omega,hj4s,by omega,HA2,RD9,AP9,OW9⟩
        case measure=>have e1:=HATJ.out;have e2:=RD9.out.atOf;rw[e1,e2];omega
       | false =>
        have HA2:Hid (Mk.z5i (s.data.toList.drop k)=Mk.q0k (s.data.toList.drop j4) (out++[⟨nm,v⟩])):=by show _=_;rw[HA.out,Mk.q1d,hin,hhs2];rfl
        clear hin HA hhs2;go_wp2_with fail;refine(HN.out _).mono ?_;rintro e w8 ⟨rfl,rfl⟩;go_wp2_with fail;refine HCF.out.mono ?_;rintro e w9 ⟨rfl,hb9⟩;have a9:Ap (fun b=>b=R) w8 w9:=Ap.of_below hb9;have RD9:=Ld (Rd.ap_far RD7.out (Ap.of_below (S:=fun _=>False) hb9) (fun h=>h));have PB9:=Ld (Blk.ap PB7.out (Ap.of_below (S:=fun _=>False) hb9) (fun h=>h));have AP9:=Ld (AP7.out.trans a9);have OW9:=Ld (z2g OW7.out a9 HBR.out);have hsz9:=AP9.out.size;have c90:w9.cell? ⟨P,0,none⟩=some (.string (st nm)):=Blk.cell PB9.out 0;have c91:w9.cell? ⟨P,1,none⟩=some (.string (st v)):=Blk.cell PB9.out 1;clear a9 hb9 OW7 AP7 RD7 PB7 c70;obtain⟨i0,hi,hz0,hz1,hz2⟩:=info_parts Tryz.infoAttr;have ow10:=z2g OW9.out ((Ap.refl (fun b=>b=R) w9).alloc (.cells #[.string (st nm),.string (st v)] 56)) HBR.out;have hlen10:out.length≤1048576:=by omega
        go_wp2_with (at_builtin;refine wpList_append_own _ rfl _ _ 50 rfl w.heap.size 56 i0 (.agg #[.string ⟨#[]⟩,.string ⟨#[]⟩]) 2 32 underlying50 hi hz0 hz1 hz2 rfl (by decide) _ _ _ rfl ow10 ⟨w9.heap.size,0,none⟩ 1 1 [.string (st nm),.string (st v)] rfl rfl (z0h _ _ _) (by intro u hu;simp at hu;rcases hu with rfl | rfl <;> rfl) (by unfold maxLen;omega) (by omega) (by simp;omega) ?_);intro v' w11 hown' hgrow _;have hown2:w11.ownsRow w.heap.size 56 2 v' (out++[(⟨nm,v⟩:Mk.At)]).length (Y8 (out++[⟨nm,v⟩])):=by
         rw[List.length_append,show Y8 (out++[(⟨nm,v⟩:Mk.At)])=Y8 out++[.string (st nm),.string (st v)] by simp[Y8]];exact hown'
        have OW11:=Ld hown2;have AP11:=Ld ((AP9.out.alloc (.cells #[.string (st nm),.string (st v)] 56)).grown hgrow (fun k hk e=>absurd hk (by have:=(OW9.out.lt k e).1;omega)));have RD11:Hid (Rd w11 R s j4 tx ov):=(hgrow.block R (by have:=Blk.lt RD9.out;simp;omega) (fun e=>HBR.out R (OW9.out.lt R e.symm).1 rfl)).trans (Blk.alloc RD9.out _);clear hown' hown2 hgrow OW9 AP9 RD9 ow10 PB9 c90 c91;go_wp2_with fail;go_roundw
        case rel=>exact⟨j4,out++[⟨nm,v⟩],by omega,hj4s,by rw[List.length_append,List.length_singleton];omega,HA2,RD11,AP11,OW11⟩
        case measure=>have e1:=HATJ.out;have e2:=RD11.out.atOf;rw[e1,e2];omega
  ·rw[show s.data.toList.drop j1=[] from List.drop_of_length_le (by simp;omega)] at HA
   simp only at HA;go_wp2_with fail;refine HP.out.mono ?_;rintro e w1 ⟨rfl,RD1,MV1⟩;have AP1:=AP.out.trans MV1.ap;go_wp2_with fail;refine(q1e RD1 (by omega)).mono ?_;rintro e w2 ⟨rfl,RD2,MV2⟩;have AP2:=Ld (AP1.trans MV2.ap);go_wp2_with fail;exact⟨rfl,.inl ⟨HA.out,rfl,⟨_,RD2⟩,AP2.out⟩⟩
end
end Go.Proofs.YtjonkbdldebkiaaGreatDoor
namespace Fd
inductive Rs (α:Type) where
 | ok:α→Bs→Rs α
 | er:Int→Rs α
def z2s (c:UInt8):Bool:=c == 9 || c == 10 || c == 13 || c == 32
def V8 (s:Bs):Bs:=s.dropWhile z2s
def z2d (first:Bool) (c:UInt8):Bool:=(97≤c && c≤122) || (65≤c && c≤90) || c == 95 || (!first && ((48≤c && c≤57) || c == 45 || c == 46 || c == 58))
def z3g:Bool→Bs→Bool
 | _,[]=>true
 | f,c :: t=>z2d f c && z3g false t
def z0b (s:Bs):Bool:=z3g true s && decide (s ≠ []) && decide (s.length≤20)
def z5v:Bool→Bs→Bs
 | _,[]=>[]
 | f,c :: t=>if z2d f c then c :: z5v false t else []
def z06 (s:Bs):Rs Bs:=if z0b (z5v true s) then .ok (z5v true s) (s.drop (z5v true s).length) else .er 1
def z0k (p s:Bs):Rs Unit:=if Mg.pre p s then .ok () (s.drop p.length) else .er 1
def z0c (p:Bs):Bs→Option (Bs × Bs)
 | []=>none
 | c :: t=>if Mg.pre p (c :: t) then some ([],(c :: t).drop p.length) else (z0c p t).map fun x=>(c :: x.1,x.2)
def toX (p s:Bs):Rs Bs:=match z0c p s with | none=>.er 1 | some x=>.ok x.1 x.2
def z1c (s:Bs):Option (Rs Unit) :=
 if Mg.pre [60,33,45,45] s then some (match z0c [45,45,62] (s.drop 4) with | none=>.er 1 | some x=>.ok () x.2)
 else if Mg.pre [60,63] s then some (match z0c [63,62] (s.drop 2) with | none=>.er 1 | some x=>.ok () x.2)
 else none
def z6b:Nat→Bs→Rs Unit
 | 0,s=>.ok () s
 | n + 1,s =>
  if (V8 s).length < s.length then z6b n (V8 s)
  else match z1c s with
   | none=>.ok () s
   | some (.er e)=>.er e
   | some (.ok _ r)=>z6b n r
def z3u (s:Bs):Rs Unit:=z6b (s.length + 1) s
def z3a (s:Bs):Rs Bs :=
 let q:UInt8:=if Mg.pre [39] s then 39 else 34
 match z0k [q] s with
 | .er e=>.er e
 | .ok _ r =>
  match toX [q] r with
  | .er e=>.er e
  | .ok v u=>if v.contains 60 then .er 1 else if (Mk.take v).2 then .ok (Mk.take v).1 u else .er 1
def z4k (s:Bs):Rs Mk.At :=
 match z06 s with
 | .er e=>.er e
 | .ok nm r =>
  match z0k [61] (V8 r) with
  | .er e=>.er e
  | .ok _ u =>
   match z3a (V8 u) with
   | .er e=>.er e
   | .ok v z=>.ok ⟨nm,v⟩ z
def z0o:Nat→Bs→List Mk.At→Rs (List Mk.At)
 | 0,s,out=>.ok out s
 | n + 1,s,out =>
  if (V8 s).length < s.length then
   match V8 s with
   | []=>.ok out []
   | c :: t =>
    if z2d true c then
     match z4k (c :: t) with
     | .er e=>.er e
     | .ok a r=>if Mk.z14 z0b [] (out++[a]) ≠ 0 then .er 6 else z0o n r (out++[a])
    else .ok out (c :: t)
  else .ok out s
def z2f (s:Bs):Rs (List Mk.At):=z0o (s.length + 1) s []
def z9i (f:Mk.Fo) (t:Bs):Mk.Fo:=if t=[] then f else Mk.Fo.snoc [] [] t .nil f
structure El where
 name:Bs
 ats:List Mk.At
 kids:Mk.Fo
mutual
def z3y:Nat→Int→Bs→Rs El
 | 0,_,_=>.er 1
 | n + 1,deep,s =>
  match z0k [60] s with
  | .er e=>.er e
  | .ok _ r =>
   match z06 r with
   | .er e=>.er e
   | .ok nm u =>
    if 8 < deep then .er 2
    else match z2f u with
     | .er e=>.er e
     | .ok l z =>
      if Mg.pre [47,62] z then .ok ⟨nm,l,.nil⟩ (z.drop 2)
      else match z0k [62] z with
       | .er e=>.er e
       | .ok _ y =>
        match z1l n deep y .nil with
        | .er e=>.er e
        | .ok k x =>
         match z06 x with
         | .er e=>.er e
         | .ok nm2 v=>if nm2 ≠ nm then .er 4 else
          match z0k [62] (V8 v) with
          | .er e=>.er e
          | .ok _ o=>.ok ⟨nm,l,k⟩ o
def z1l:Nat→Int→Bs→Mk.Fo→Rs Mk.Fo
 | 0,_,_,_=>.er 1
 | n + 1,deep,s,out =>
  if Mg.pre [60,47] s then .ok out (s.drop 2)
  else if Mg.pre [60,33,91,67,68,65,84,65,91] s then
   match toX [93,93,62] (s.drop 9) with
   | .er e=>.er e
   | .ok t r=>z1l n deep r (z9i out t)
  else match z1c s with
   | some (.er e)=>.er e
   | some (.ok _ r)=>z1l n deep r out
   | none =>
    if Mg.pre [60] s then
     match z3y n (deep + 1) s with
     | .er e=>.er e
     | .ok x r=>z1l n deep r (out.app (.node x.name x.ats [] x.kids .nil))
    else match z0c [60] s with
     | none=>.er 1
     | some (t,_)=>if (Mk.take t).2 then z1l n deep (s.drop t.length) (z9i out (Mk.take t).1) else .er 1
end
def xmlR (s:Bs):El × Int :=
 match z3u s with
 | .er e=>(⟨[],[],.nil⟩,e)
 | .ok _ r =>
  match z3y (r.length + 1) 1 r with
  | .er e=>(⟨[],[],.nil⟩,e)
  | .ok x u =>
   match z3u u with
   | .er e=>(⟨[],[],.nil⟩,e)
   | .ok _ v=>if v=[] then (x,0) else (⟨[],[],.nil⟩,1)
def xmlB:Mk.Fo→Bs
 | .nil=>[]
 | .node n a t k r=>(if n=[] then Mk.put t else [60]++n++Mk.written a++(if k=.nil then [47,62] else [62]++xmlB k++[60,47]++n++[62]))++xmlB r
example:(xmlR [60,97,62,120,60,98,47,62,60,47,97,62]).2=0:=by decide +kernel
example:xmlB (.node [97] [] [] (.node [] [] [120] .nil (.node [98] [] [] .nil .nil)) .nil)=[60,97,62,120,60,98,47,62,60,47,97,62]:=by decide +kernel
def Sh.none:Sh:=⟨[],[]⟩
structure Ac where
 kind:Int
 text:Bs
 base:Bs
structure Dr where
 s:Bs
 short:Bool
def V4 (of:Bs) (r:Dr):UInt8 × Dr :=
 match r.s with
 | []=>(0,⟨[],true⟩)
 | c :: t=>if of.contains c then (c,⟨t,r.short⟩) else (0,⟨[],true⟩)
def tenD:Bs:=[48,49,50,51,52,53,54,55,56,57]
def digD:Nat→Int→Dr→Int × Dr
 | 0,n,r=>(n,r)
 | k + 1,n,r=>digD k (10 * n + max 0 ((((V4 tenD r).1.toNat:Nat):Int) - 48)) (V4 tenD r).2
def Y0 (many:Nat) (most:Int) (r:Dr):Int × Dr :=
 let x:=digD many 0 r
 (x.1,⟨x.2.s,x.2.short || decide (most < x.1)⟩)
def z4d (r:Dr):Int × Dr :=
 let h:=Y0 2 23 r
 let m:=Y0 2 59 (V4 [58] h.2).2
 let z:=Y0 2 59 (V4 [58] m.2).2
 (3600 * h.1 + 60 * m.1 + z.1,z.2)
def z2u (between:Bs) (r:Dr):Int × Dr :=
 let g:=V4 [43,45] r
 let h:=Y0 2 23 g.2
 let m:=Y0 2 59 (if between=[] then h.2 else (V4 between h.2).2)
 ((if g.1=45 then -1 else 1) * (3600 * h.1 + 60 * m.1),m.2)
def q8r:Nat→Int→Int→Int
 | 0,_,n=>n
 | k + 1,y,n=>q8r k y n + long y (k + 1)
def z95 (y m d:Int):Int:=q8r (m - 1).toNat y (ahead y - ahead 1970 + d - 1)
def z7j (y m d clock zone:Int) (r:Dr):Int × Int :=
 if r.short=true∨r.s ≠ [] then (0,1)
 else if m < 1∨12 < m∨d < 1∨long y m < d then (0,3)
 else if 86400 * z95 y m d + clock - zone < 0∨4102444799 < 86400 * z95 y m d + clock - zone then (0,3)
 else (86400 * z95 y m d + clock - zone,0)
def webD (s:Bs):Int × Int :=
 let y:=Y0 4 9999 ⟨s,false⟩
 let m:=Y0 2 99 (V4 [45] y.2).2
 let d:=Y0 2 99 (V4 [45] m.2).2
 let c:=z4d (V4 [84] d.2).2
 if c.2.s=[90] then z7j y.1 m.1 d.1 c.1 0 ⟨[],c.2.short⟩
 else z7j y.1 m.1 d.1 c.1 (z2u [58] c.2).1 (z2u [58] c.2).2
def z2i (c:UInt8):Bool:=(97≤c && c≤122) || (65≤c && c≤90)
def z1w (r:Dr):Bs × Dr:=if 3≤r.s.length∧(r.s.take 3).all z2i=true then (r.s.take 3,⟨r.s.drop 3,r.short⟩) else ([],⟨[],true⟩)
def z0d:List Bs:=[[74,97,110],[70,101,98],[77,97,114],[65,112,114],[77,97,121],[74,117,110],[74,117,108],[65,117,103],[83,101,112],[79,99,116],[78,111,118],[68,101,99]]
def z4v (r:Dr):Int × Dr :=
 let x:=z1w r
 match z0d.idxOf? x.1 with
 | none=>(0,⟨x.2.s,true⟩)
 | some k=>((k:Int) + 1,x.2)
def q6e (s:Bs):Int × Int :=
 let r0:Dr:=⟨s,false⟩
 let r:=match s with
  | []=>r0
  | c :: _=>if z2i c then (V4 [32] (V4 [44] (z1w r0).2).2).2 else r0
 let many:=match r.s with
  | _ :: c :: _=>if c=32 then 1 else 2
  | _=>1
 let d:=Y0 many 99 r
 let m:=z4v (V4 [32] d.2).2
 let y:=Y0 4 9999 (V4 [32] m.2).2
 let c:=z4d (V4 [32] y.2).2
 let z:=(V4 [32] c.2).2
 if z.s=[71,77,84]∨z.s=[85,84] then z7j y.1 m.1 d.1 c.1 0 ⟨[],z.short⟩
 else z7j y.1 m.1 d.1 c.1 (z2u [] z).1 (z2u [] z).2
def z16:Mk.Fo→Bs
 | .nil=>[]
 | .node _ _ t k r=>t++z16 k++z16 r
def q7a (s:Bs):Bs:=((V8 s).reverse.dropWhile z2s).reverse
structure Nd where
 name:Bs
 ats:List Mk.At
 text:Bs
 kids:Mk.Fo
def Nd.none:Nd:=⟨[],[],[],.nil⟩
def z2z (title:Bs) (p:Nd→Bool):Mk.Fo→Option Nd
 | .nil=>Option.none
 | .node n a t k r=>if n=title && p ⟨n,a,t,k⟩ then some ⟨n,a,t,k⟩ else z2z title p r
def q14 (title:Bs) (f:Mk.Fo):Option Nd:=z2z title (fun _=>true) f
def Q5 (f:Mk.Fo) (title:Bs):Bs:=let x:=(q14 title f).getD Nd.none;q7a (x.text++z16 x.kids)
def valueA (l:List Mk.At) (n:Bs):Option Bs:=(l.find? fun a=>a.n == n).map fun a=>a.v
def q38 (base v:Bs):Bs:=if Mg.isSafe (Mk.light base v) then Mk.light base v else []
def asM (base:Bs) (x:En):En:=⟨if x.id=[] then q38 base x.li else x.id,x.ti,q38 base x.li,x.at_,Mk.html base x.ht⟩
def putM (base:Bs) (out:List En) (x:En):List En :=
 if 3000 < base.length∨3000 < x.ht.length∨out.length=12∨z03 (asM base x) ≠ 0∨(out.any fun z=>z.id == (asM base x).id)=true then out else out++[asM base x]
def j3j:Bs:=[103,117,105,100]
def z5z:Bs:=[116,105,116,108,101]
def z8t:Bs:=[108,105,110,107]
def tPub:Bs:=[112,117,98,68,97,116,101]
def j3i:Bs:=[100,101,115,99,114,105,112,116,105,111,110]
def tId:Bs:=[105,100]
def tUpd:Bs:=[117,112,100,97,116,101,100]
def tRel:Bs:=[114,101,108]
def tAlt:Bs:=[97,108,116,101,114,110,97,116,101]
def j7l:Bs:=[104,114,101,102]
def tSum:Bs:=[115,117,109,109,97,114,121]
def q5c:Bs:=[99,111,110,116,101,110,116]
def q4n (k:Mk.Fo):En:=⟨Q5 k j3j,Q5 k z5z,Q5 k z8t,(q6e (Q5 k tPub)).1,Q5 k j3i⟩
def z7q (x:Nd):Bool:=match valueA x.ats tRel with | Option.none=>true | some v=>v == tAlt
def z9r (k:Mk.Fo):En :=
 ⟨Q5 k tId,Q5 k z5z,(valueA ((z2z z8t z7q k).getD Nd.none).ats j7l).getD [],(webD (Q5 k tUpd)).1,Q5 k (if (q14 q5c k).isSome then q5c else tSum)⟩
def z7h (base title:Bs) (E:Mk.Fo→En):Mk.Fo→List En→List En
 | .nil,out=>out
 | .node n _ _ k r,out=>z7h base title E r (if n=title then putM base out (E k) else out)
def tRss:Bs:=[114,115,115]
def q03:Bs:=[99,104,97,110,110,101,108]
def j7m:Bs:=[105,116,101,109]
def z3e:Bs:=[102,101,101,100]
def j08:Bs:=[101,110,116,114,121]
def xmlM (s:Bs):El × Int:=if 3000 < s.length then (⟨[],[],.nil⟩,2) else xmlR s
def X0 (base s:Bs):List En × Int :=
 if 3000 < base.length then ([],2)
 else if (xmlM s).2 ≠ 0 then ([],(xmlM s).2)
 else if (xmlM s).1.name=tRss then
  match q14 q03 (xmlM s).1.kids with
  | Option.none=>([],5)
  | some c=>(z7h base j7m q4n c.kids [],0)
 else if (xmlM s).1.name=z3e then (z7h base j08 z9r (xmlM s).1.kids [],0)
 else ([],7)
example:webD [50,48,48,48,45,48,50,45,50,57,84,49,50,58,51,48,58,48,48,43,48,49,58,51,48]=(951822000,0):=by decide +kernel
example:(webD [49,57,57,57,45,48,50,45,50,57,84,48,48,58,48,48,58,48,48,90]).2=3:=by decide +kernel
end Fd
