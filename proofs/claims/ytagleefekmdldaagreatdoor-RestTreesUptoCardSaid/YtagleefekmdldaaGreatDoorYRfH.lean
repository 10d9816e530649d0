/- Contract of the reference's TokensOf. Condition: a text of at most 300000 bytes. -/
import Derived.Test.YtagleefekmdldaaGreatDoorYRsB
import Derived.Test.YtagleefekmdldaaGreatDoorYRfF
import Derived.RegionTactic
import Derived.ChangeAlike
import Derived.Test.YtagleefekmdldaaGreatDoorYMkHtml
set_option linter.unusedVariables false
set_option linter.unusedSimpArgs false
set_option maxHeartbeats 16000000
set_option maxRecDepth 100000
namespace Go.Proofs.YtagleefekmdldaaGreatDoor
open Go.Proofs.Tryz Go.RowKit
theorem TkO.drew {w:World} {B X O:Nat} {tx:List UInt8} {ts:List Mk.Tok} {ov:Value} {xs:List Value} (h:TkO w B X O tx ts ov xs):TkO w.drew B X O tx ts ov xs:=h.frame fun _ _ _=>rfl
theorem q8g (s:List UInt8) (w:World) (hs:s.length≤300000) :
  Calls prog 10 #[.string (st s)] w fun e w'=>∃ v,e=.returned v∧z1b w' (fun b=>w.heap.size≤b∧b < w'.heap.size) v (Mk.toks s)∧Below w.heap.size w w':=by
 have e1:(st s).size=s.length:=y9 s;have hst:∀ l:List UInt8,(st l).toList=l:=fun l=>Lib.toList_data _
 go_enter func10,ntmps10
 go_upto_block 0 with fail
 have TK0:Hid (TkO ((w.alloc (.cells #[.slice none 0 0] 27)).alloc (.cells #[.string ⟨#[]⟩] 9)) w.heap.size (w.heap.size + 1) w.heap.size [] [] (.slice none 0 0) []):=by
  refine⟨Nat.le_succ _,Lr,by omega,?_,Blk.alloc (Blk.new w _ _) _,World.ownsRow_nil _ _ _ _,rfl,by simp[Value.ownBlock],by simp[Value.ownBlock]⟩;have:=Blk.new (w.alloc (.cells #[.slice none 0 0] 27)) 9 #[.string ⟨#[]⟩]
  rwa [show (w.alloc (.cells #[.slice none 0 0] 27)).heap.size=w.heap.size + 1 by simp] at this
 have BL0:Hid (Below w.heap.size w ((w.alloc (.cells #[.slice none 0 0] 27)).alloc (.cells #[.string ⟨#[]⟩] 9))):=((Below.refl w.heap.size w).alloc (Lr) _).alloc (by simp) _;generalize ((w.alloc (.cells #[.slice none 0 0] 27)).alloc (.cells #[.string ⟨#[]⟩] 9))=w0 at TK0 BL0 ⊢;generalize w.heap.size + 1=X at TK0 ⊢;go_wp2_with fail
 go_loopw [6] (fun av wx=>∃ (k:Nat) (tx:List UInt8) (ts:List Mk.Tok) (ov:Value) (xs:List Value),k≤s.length∧tx.length≤k∧ts.length≤2 * k∧av=.int .i64 (k:Int)∧Hid (Mk.toks s=Mk.z5h (s.drop k) tx ts)∧Hid (TkO wx w.heap.size X w.heap.size tx ts ov xs)∧Hid (Below w.heap.size w wx)) (fun av _=>s.length - (intOf av).toNat)
 case atStart=>exact⟨0,[],[],_,[],Nat.zero_le _,Nat.zero_le _,Nat.zero_le _,rfl,rfl,TK0,BL0⟩
 case round =>
  clear TK0 BL0;obtain⟨k,tx,ts,ov,xs,hk,htx,hts,rfl,HT,TK,BL⟩:=hrel;have cX:wr.cell? ⟨X,0,none⟩=some (.string (st tx)):=Blk.cell TK.out.bx 0;have fX:=Blk.frozen TK.out.bx 0
  by_cases hlt:k < s.length
  ·obtain⟨x,hx⟩:∃ x,s[k]=x:=⟨_,rfl⟩
   have hget:∀ h,(st s)[k]'h=x:=fun _=>hx
   have hlti:(k:Int) < s.length:=by omega
   have hb9:=x.toNat_lt;have hd:=List.drop_eq_getElem_cons hlt;rw[hx] at hd
   rcases X9 x 60 with ⟨y60,p60⟩ | ⟨y60,p60⟩
   ·have q60:((x.toNat:Int) == 60)=true:=p60
    have r60:((x.toNat:Int) != 60)=false:=by rw[bne,q60];rfl
    subst y60;have hrd:=Mk.z92 (s.drop (k + 1)) tx ts;rw[← hd] at hrd;have HRD:=Ld hrd;have HD:=Ld hd;clear hrd hd hx p60
    go_upto_block 2 with fail
    have PT:Hid (Blk (wr.alloc (.cells #[.int .i64 0,.string ⟨#[]⟩,.slice none 0 0,.string ⟨#[]⟩] 52)) wr.heap.size 52 #[.int .i64 0,.string ⟨#[]⟩,.slice none 0 0,.string ⟨#[]⟩]):=Blk.new wr _ _;have hal:=(Below.refl wr.heap.size wr).alloc (Lr) (.cells #[.int .i64 0,.string ⟨#[]⟩,.slice none 0 0,.string ⟨#[]⟩] 52);have TK1:=Ld (TK.out.below hal);have BL1:=Ld (BL.out.trans (hal.mono BL.out.size));have hBT:w.heap.size≤wr.heap.size:=BL.out.size;have hXT:wr.heap.size ≠ X:=by have:=Blk.lt TK.out.bx;omega
    have hOT:wr.heap.size ≠ w.heap.size:=by have:=Blk.lt TK.out.bo;omega
    have HVT:Hid (ov.ownBlock ≠ some wr.heap.size):=fun e=>by have:=(TK.out.own.lt _ e).2;omega
    clear TK BL hal cX fX;generalize (wr.alloc (.cells #[.int .i64 0,.string ⟨#[]⟩,.slice none 0 0,.string ⟨#[]⟩] 52))=w1 at PT TK1 BL1 ⊢;generalize wr.heap.size=T at PT hBT hXT hOT HVT ⊢;clear wr
    go_cut [7] (fun tv wx=>∃ (tov kd:Int) (nm:List UInt8) (ats:List Mk.At) (va:Value),tv=.int .i64 tov∧Hid (Mk.Told s k tov kd nm ats)∧Hid (Blk wx T 52 #[.int .i64 kd,.string (st nm),va,.string ⟨#[]⟩])∧Hid (AtsV wx (KT wx w.heap.size) va ats)∧Hid (TkO wx w.heap.size X w.heap.size tx ts ov xs)∧Hid (Below w.heap.size w wx))
    case first =>
     as_aux_lemma =>
     clear HT HRD;have hsa:∀ (p:List UInt8) (b:Bool),p.length≤8→Mg.pre p (s.drop k)=b→∀ W,Calls prog 33 #[.string (st s),.int .i64 k,.string (st p)] W fun e w'=>e=.returned (.bool b)∧W=w':=fun p b hp hb W=>by
      have:=z5v (st s) (st p) k W (by rw[e1];exact hk) (by omega) (by rw[y9];omega)
      rwa [show (st s).data.toList=s from rfl,show (st p).data.toList=p from rfl,hb] at this
     obtain⟨A,hA⟩:∃ A,Mk.z1y (s.drop (k + 1))=A:=⟨_,rfl⟩;obtain⟨P2,hP2⟩:∃ b,Mg.pre [60,47] (s.drop k)=b:=⟨_,rfl⟩;obtain⟨L2,hL2⟩:∃ b,Mk.z1y (s.drop (k + 2))=b:=⟨_,rfl⟩;obtain⟨C,hC⟩:∃ b,Mg.pre [60,33,45,45] (s.drop k)=b:=⟨_,rfl⟩;obtain⟨D1,hD1⟩:∃ b,Mg.pre [60,33] (s.drop k)=b:=⟨_,rfl⟩;obtain⟨D2,hD2⟩:∃ b,Mg.pre [60,63] (s.drop k)=b:=⟨_,rfl⟩;have SP2:=Ld (hsa [60,47] P2 (by decide) hP2);have SC:=Ld (hsa [60,33,45,45] C (by decide) hC);have SD1:=Ld (hsa [60,33] D1 (by decide) hD1);have SD2:=Ld (hsa [60,63] D2 (by decide) hD2);have HA:=Ld hA;have HP2:=Ld hP2;have HL2:=Ld hL2;have HC:=Ld hC;have HD1:=Ld hD1;have HD2:=Ld hD2;clear hsa hA hP2 hL2 hC hD1 hD2;go_upto_region 11 with fail
     go_cut [29] (fun b wx=>b=.bool A∧w1=wx)
     case first =>
      as_aux_lemma =>
      by_cases h1:k + 1 < s.length
      ·obtain⟨y,hy⟩:∃ y,s[k + 1]=y:=⟨_,rfl⟩
       have hgy:∀ h,(st s)[k + 1]'h=y:=fun _=>hy
       have h1i:(k:Int) + 1 < s.length:=by omega
       have hl:=z9e y w1;rw[← Mk.q4g s (k + 1) h1 y hy,HA.out] at hl;have HLY:=Ld hl;have hb9:=y.toNat_lt;clear hl hy;go_wp2_with fail;refine HLY.out.mono ?_;rintro e w9 ⟨rfl,hw9⟩;subst w9;go_wp2_with fail;go_meet
       case rel=>exact⟨rfl,rfl⟩
      ·have h1i:¬ (k:Int) + 1 < s.length:=by omega
       have HE:Hid (A=false):=by show _=_;rw[← HA.out];exact Mk.q06 s (k + 1) h1
       go_wp2_with fail;go_meet
       case rel=>exact⟨by rw[HE.out],rfl⟩
     case rest =>
     as_aux_lemma =>
     obtain⟨rfl,hwx⟩:=hcut;subst hwx;go_upto_if 29 with fail
     go_cut [29] (fun b wx=>b=.bool (A || (P2 && L2))∧w1=wx)
     case first =>
      as_aux_lemma =>
      cases A with
      | true =>
       go_wp2_with fail;go_meet
       case rel=>exact⟨rfl,rfl⟩
      | false =>
       cases P2 with
       | false =>
        go_wp2_with fail;refine(SP2.out _).mono ?_;rintro e w9 ⟨rfl,hw9⟩;subst w9;go_wp2_with fail;go_meet
        case rel=>exact⟨rfl,rfl⟩
       | true =>
        by_cases h1:k + 2 < s.length
        ·obtain⟨y,hy⟩:∃ y,s[k + 2]=y:=⟨_,rfl⟩
         have hgy:∀ h,(st s)[k + 2]'h=y:=fun _=>hy
         have h1i:(k:Int) + 2 < s.length:=by omega
         have hl:=z9e y w1;rw[← Mk.q4g s (k + 2) h1 y hy,HL2.out] at hl;have HLY:=Ld hl;have hb9:=y.toNat_lt;clear hl hy;go_wp2_with fail;refine(SP2.out _).mono ?_;rintro e w9 ⟨rfl,hw9⟩;subst w9;go_wp2_with fail;refine HLY.out.mono ?_;rintro e w9 ⟨rfl,hw9⟩;subst w9;go_wp2_with fail;go_meet
         case rel=>exact⟨by simp,rfl⟩
        ·have h1i:¬ (k:Int) + 2 < s.length:=by omega
         have HE:Hid (L2=false):=by show _=_;rw[← HL2.out];exact Mk.q06 s (k + 2) h1
         go_wp2_with fail;refine(SP2.out _).mono ?_;rintro e w9 ⟨rfl,hw9⟩;subst w9;go_wp2_with fail;go_meet
         case rel=>exact⟨by rw[HE.out];simp,rfl⟩
     case rest =>
     as_aux_lemma =>
     obtain⟨rfl,hwx⟩:=hcut;subst hwx;have c0:w1.cell? ⟨T,0,none⟩=some (.int .i64 0):=Blk.cell PT.out 0;have f0:=Blk.frozen PT.out 0
     cases A with
     | true =>
      as_aux_lemma =>
      rw[show (true || (P2 && L2))=true from rfl];have h1:k + 1 < s.length:=by
       rcases Nat.lt_or_ge (k + 1) s.length with h | h
       ·exact h
       ·have:=Mk.q06 s (k + 1) (by omega);rw[HA.out] at this;cases this
      obtain⟨y,hy⟩:∃ y,s[k + 1]=y:=⟨_,rfl⟩;have hgy:∀ h,(st s)[k + 1]'h=y:=fun _=>hy
      have h1i:(k:Int) + 1 < s.length:=by omega
      have hb9:=y.toNat_lt;have hly:=Mk.q4g s (k + 1) h1 y hy;rw[HA.out] at hly;have hq:((y.toNat:Int) == 47)=false:=by
       rw[beq_eq_false_iff_ne];intro e;have:y=47:=UInt8.toNat_inj.1 (by show y.toNat=47;omega);rw[this] at hly
       cases hly
      have HO:=Ld (Mk.j1i s k HA.out);clear hly hy SP2 SC SD1 SD2 HP2 HL2 HC HD1 HD2 HA
      go_upto_block 3 with fail
      have PT2:=Ld (Blk.set_ PT.out 0 (.int .i64 2));have TK2:Hid (TkO (w1.setCell ⟨T,0,none⟩ (.int .i64 2)) w.heap.size X w.heap.size tx ts ov xs):=TK1.out.frame fun b _ q=>by
       have hbT:b ≠ T:=by rintro rfl;rcases q with e | e | e | e;exact hXT e;exact hOT e;exact HVT.out e;exact KT.ne e ⟨_,PT.out⟩ (by decide) rfl
       exact Below.heap_setCell w1 ⟨T,0,none⟩ _ b hbT
      have BL2:Hid (Below w.heap.size w (w1.setCell ⟨T,0,none⟩ (.int .i64 2))):=BL1.out.setCell (p:=⟨T,0,none⟩) hBT _;clear c0 f0;generalize (w1.setCell ⟨T,0,none⟩ (.int .i64 2))=w2 at PT2 TK2 BL2 ⊢;clear PT TK1 BL1 w1;obtain⟨J,hJ⟩:∃ J,J=k + 1:=⟨_,rfl⟩;have hJl:J≤s.length:=by omega
      have hJi:(k:Int) + 1=(J:Int):=by omega
      rw[hJi];have HJ:=Ld hJ;have hJk:k < J:=by omega
      clear hJi hJ
      go_upto_block 3 with fail
      go_cut [10] (fun v wx=>∃ i:Nat,v=.int .i64 (i:Int)∧J≤i∧i≤s.length∧Hid (Mk.z1h Mk.Q7 s J i)∧Hid (Mk.z02 Mk.Q7 s i)∧w2=wx)
      case first =>
       as_aux_lemma =>
        go_wp2_with fail
        go_loopw [10] (fun v wx=>∃ i:Nat,v=.int .i64 (i:Int)∧J≤i∧i≤s.length∧Hid (Mk.z1h Mk.Q7 s J i)∧w2=wx) (fun v _=>s.length - (intOf v).toNat)
        case atStart=>exact⟨J,by go_num,Lr,by omega,Mk.z1h.start (by omega),rfl⟩
        case round =>
         obtain⟨i,rfl,hJi,hil,HRU,hwx⟩:=hrel;subst hwx
         by_cases hlt:i < s.length
         ·obtain⟨x,hx⟩:∃ x,s[i]=x:=⟨_,rfl⟩
          have hget:∀ h,(st s)[i]'h=x:=fun _=>hx
          have hlti:(i:Int) < s.length:=by omega
          have hb9:=x.toNat_lt;have hb8:(x.toNat:Int) < 256:=by omega
          have hiw:=z2a x w2;obtain⟨b,hb⟩:∃ b,Mk.white x=b:=⟨_,rfl⟩;rw[hb] at hiw;have HIW:=Ld hiw;have HQ:=Ld (Mk.tag_of x b hb);have HX:=Ld hx;clear hiw hb hx
          cases b with
          | true =>
           have HT:Hid (Mk.Q7 x=false):=by show _=_;rw[HQ.out];rfl
           clear HQ;go_wp2_with fail;refine HIW.out.mono ?_;rintro e w9 ⟨rfl,hw9⟩;subst hw9;go_wp2_with fail;go_meet
           case rel=>exact⟨i,rfl,hJi,hil,HRU.out,Mk.z02.at_ hlt x HX.out HT.out,(by trivial)⟩
          | false =>
           rcases X9 x 47 with ⟨y47,p47⟩ | ⟨y47,p47⟩
           ·have q47:((x.toNat:Int) == 47)=true:=p47
            have r47:((x.toNat:Int) != 47)=false:=by rw[bne,q47];rfl
            have HT:Hid (Mk.Q7 x=false):=by show _=_;rw[HQ.out,y47];simp
            clear HQ p47;clear y47;go_wp2_with fail;refine HIW.out.mono ?_;rintro e w9 ⟨rfl,hw9⟩;subst hw9;go_wp2_with fail;go_meet
            case rel=>exact⟨i,rfl,hJi,hil,HRU.out,Mk.z02.at_ hlt x HX.out HT.out,(by trivial)⟩
           have q47:((x.toNat:Int) == 47)=false:=p47;have r47:((x.toNat:Int) != 47)=true:=by rw[bne,q47];rfl
           rcases X9 x 62 with ⟨y62,p62⟩ | ⟨y62,p62⟩
           ·have q62:((x.toNat:Int) == 62)=true:=p62
            have r62:((x.toNat:Int) != 62)=false:=by rw[bne,q62];rfl
            have HT:Hid (Mk.Q7 x=false):=by show _=_;rw[HQ.out,y62];simp
            clear HQ p62 y47 p47;clear y62;go_wp2_with fail;refine HIW.out.mono ?_;rintro e w9 ⟨rfl,hw9⟩;subst hw9;go_wp2_with fail;go_meet
            case rel=>exact⟨i,rfl,hJi,hil,HRU.out,Mk.z02.at_ hlt x HX.out HT.out,(by trivial)⟩
           have q62:((x.toNat:Int) == 62)=false:=p62;have r62:((x.toNat:Int) != 62)=true:=by rw[bne,q62];rfl
           have HT:Hid (Mk.Q7 x=true):=by show _=_;rw[HQ.out];simp[y47,y62]
           clear HQ y47 y62;go_wp2_with fail;refine HIW.out.mono ?_;rintro e w9 ⟨rfl,hw9⟩;subst hw9;go_wp2_with fail;go_roundw
           case rel=>exact⟨i + 1,by go_num,by omega,hlt,HRU.out.next hlt x HX.out HT.out,(by trivial)⟩
           case measure=>simp[intOf];omega
         ·have HE:Hid (Mk.z02 Mk.Q7 s i):=.inl (by omega)
          have hlti:¬ (i:Int) < s.length:=by omega
          go_wp2_with fail;go_meet
          case rel=>exact⟨i,rfl,hJi,hil,HRU.out,HE,(by trivial)⟩
      case rest =>
      as_aux_lemma =>
      obtain⟨en,rfl,hena,henb,hen,een,hwx⟩:=hcut;subst hwx;have HTOPEN:=Ld (Mk.open_at hen.out een.out);have hfo:=fun W=>z8u ((st s).extract J en) W (by rw[Z4,y9,List.length_take,List.length_drop,z0b];omega)
      rw[Z4,z0b,z0b] at hfo;obtain⟨nm,hnm⟩:∃ nm,Mg.fold ((s.drop J).take (en - J))=nm:=⟨_,rfl⟩;have hnl:nm.length≤s.length:=by rw[← hnm];unfold Mg.fold;rw[List.length_map,List.length_take,List.length_drop];omega
      rw[hnm] at hfo HTOPEN;have HFO:Hid (∀ W,Calls prog 35 #[.string ((st s).extract J en)] W fun e w'=>e=.returned (.string (st nm))∧Below W.heap.size W w'):=by rw[Z4,z0b];exact hfo
      have hle1:(J:Int)≤en:=by omega
      have hle2:(en:Int)≤s.length:=by omega
      have hken:k < en:=by omega
      clear hfo hnm hen een;go_wp2_with fail;refine(HFO.out _).mono ?_;rintro e w3 ⟨rfl,hb3⟩;have PT3:=Ld (Blk.below PT2.out hb3 (Blk.lt PT2.out));have TK3:=Ld (TK2.out.below hb3);have BL3:=Ld (BL2.out.trans (hb3.mono BL2.out.size));have c1:w3.cell? ⟨T,1,none⟩=some (.string ⟨#[]⟩):=Blk.cell PT3.out 1;have f1:=Blk.frozen PT3.out 1;clear hb3 PT2 TK2 BL2 HFO;go_upto_region 22 with fail;have PT4:=Ld (Blk.set_ PT3.out 1 (.string (st nm)));have TK4:Hid (TkO (w3.setCell ⟨T,1,none⟩ (.string (st nm))) w.heap.size X w.heap.size tx ts ov xs):=TK3.out.frame fun b _ q=>by
       have hbT:b ≠ T:=by rintro rfl;rcases q with e | e | e | e;exact hXT e;exact hOT e;exact HVT.out e;exact KT.ne e ⟨_,PT3.out⟩ (by decide) rfl
       exact Below.heap_setCell w3 ⟨T,1,none⟩ _ b hbT
      have BL4:Hid (Below w.heap.size w (w3.setCell ⟨T,1,none⟩ (.string (st nm)))):=BL3.out.setCell (p:=⟨T,1,none⟩) hBT _;clear c1 f1;generalize (w3.setCell ⟨T,1,none⟩ (.string (st nm)))=w4 at PT4 TK4 BL4 ⊢;clear PT3 TK3 BL3 w3 w2;have d0:w4.cell? ⟨T,0,none⟩=some (.int .i64 2):=Blk.cell PT4.out 0;have HAT:=Ld (j2i s en w4 henb (by omega));go_wp2_with fail;refine HAT.out.mono ?_;rintro e w5 ⟨hb5,(⟨hno,rfl⟩ | ⟨l,j,v,hs1,hs2,hs3,hs4,rfl,hown⟩)⟩
      ·have PT5:=Ld (Blk.below PT4.out hb5 (Blk.lt PT4.out))
       have TK5:=Ld (TK4.out.below hb5);have BL5:=Ld (BL4.out.trans (hb5.mono BL4.out.size));have c2:w5.cell? ⟨T,2,none⟩=some (.slice none 0 0):=Blk.cell PT5.out 2;have f2:=Blk.frozen PT5.out 2;have TK6:Hid (TkO (w5.setCell ⟨T,2,none⟩ (.slice none 0 0)) w.heap.size X w.heap.size tx ts ov xs):=TK5.out.frame fun b _ q=>by
        have hbT:b ≠ T:=by rintro rfl;rcases q with e | e | e | e;exact hXT e;exact hOT e;exact HVT.out e;exact KT.ne e ⟨_,PT5.out⟩ (by decide) rfl
        exact Below.heap_setCell w5 ⟨T,2,none⟩ _ b hbT
       have HST:Hid (Mk.Told s k (-1) 2 nm []):=.inr (.inl ⟨rfl,by rw[HO.out,← HJ.out,HTOPEN.out,hno]⟩);clear hb5 HAT PT4 TK4 BL4 d0 HTOPEN hno;go_wp2_with fail;go_meet
       case rel=>exact⟨-1,2,nm,[],.slice none 0 0,rfl,HST,Blk.set_ PT5.out 2 _,AtsV.nil _ _,TK6,BL5.out.setCell (p:=⟨T,2,none⟩) hBT _⟩
      ·have PT5:=Ld (Blk.below PT4.out hb5 (Blk.lt PT4.out))
       have TK5:=Ld (TK4.out.below hb5);have BL5:=Ld (BL4.out.trans (hb5.mono BL4.out.size));have c2:w5.cell? ⟨T,2,none⟩=some (.slice none 0 0):=Blk.cell PT5.out 2;have f2:=Blk.frozen PT5.out 2;have at5:=AtsV.of_own (K:=KT w5 w.heap.size) hown (own_KT hown BL4.out.size);obtain⟨ao,cap,hv⟩:=Y1 hown;subst hv;have AT6:=Ld (at5.frame (K':=KT (w5.setCell ⟨T,2,none⟩ (.slice ao l.length cap)) w.heap.size) (KT.far PT5.out 2 (.slice ao l.length cap)));have TK6:Hid (TkO (w5.setCell ⟨T,2,none⟩ (.slice ao l.length cap)) w.heap.size X w.heap.size tx ts ov xs):=TK5.out.frame fun b _ q=>by
        have hbT:b ≠ T:=by rintro rfl;rcases q with e | e | e | e;exact hXT e;exact hOT e;exact HVT.out e;exact KT.ne e ⟨_,PT5.out⟩ (by decide) rfl
        exact Below.heap_setCell w5 ⟨T,2,none⟩ _ b hbT
       have HST:Hid (Mk.Told s k (j:Int) 2 nm l):=by
        refine .inr (.inr ⟨j,rfl,by omega,hs3,hnl,?_⟩);rw[HO.out,← HJ.out,HTOPEN.out,hs1]
        cases hin:Mk.isName nm with
        | true=>exact .inl ⟨by decide,rfl,rfl⟩
        | false=>exact .inr ⟨.inr rfl,rfl⟩
       clear hb5 HAT PT4 TK4 BL4 d0 HTOPEN hs1 hown at5;go_wp2_with fail;go_meet
       case rel=>exact⟨(j:Int),2,nm,l,.slice ao l.length cap,rfl,HST,Blk.set_ PT5.out 2 _,AT6,TK6,BL5.out.setCell (p:=⟨T,2,none⟩) hBT _⟩
     | false =>
      as_aux_lemma =>
      cases hB:(P2 && L2) with
      | true =>
       as_aux_lemma =>
       first | rw[show (false || true)=true from rfl] | rw[show (false || (true && true))=true from rfl]
       rw[Bool.and_eq_true] at hB;obtain⟨hB1,hB2⟩:=hB;subst hB1;subst hB2;have h1:k + 2 < s.length:=by
        rcases Nat.lt_or_ge (k + 2) s.length with h | h
        ·exact h
        ·have:=Mk.q06 s (k + 2) (by omega);rw[HL2.out] at this;cases this
       have hy:s[k + 1]=47:=by
        have:=HP2.out;rw[HD.out] at this;have this2:(s.drop (k + 1)).take 1=[47]:=by simpa [Mg.pre] using this
        rw[List.drop_eq_getElem_cons (show k + 1 < s.length by omega)] at this2;exact(List.cons.inj (show [s[k + 1]]=[47] from this2)).1
       have hgy:∀ h,(st s)[k + 1]'h=47:=fun _=>hy
       have h1i:(k:Int) + 1 < s.length:=by omega
       have HO:=Ld (Mk.q7s s k HA.out (by rw[HP2.out,HL2.out];rfl));clear hy SP2 SC SD1 SD2 HP2 HL2 HC HD1 HD2 HA
       go_upto_block 3 with fail
       have PT2:=Ld (Blk.set_ (Blk.set_ PT.out 0 (.int .i64 2)) 0 (.int .i64 3));have TK2:Hid (TkO ((w1.setCell ⟨T,0,none⟩ (.int .i64 2)).setCell ⟨T,0,none⟩ (.int .i64 3)) w.heap.size X w.heap.size tx ts ov xs):=TK1.out.frame fun b _ q=>by
        have hbT:b ≠ T:=by rintro rfl;rcases q with e | e | e | e;exact hXT e;exact hOT e;exact HVT.out e;exact KT.ne e ⟨_,PT.out⟩ (by decide) rfl
        exact(Below.heap_setCell (w1.setCell ⟨T,0,none⟩ (.int .i64 2)) ⟨T,0,none⟩ _ b hbT).trans (Below.heap_setCell w1 ⟨T,0,none⟩ _ b hbT)
       have BL2:Hid (Below w.heap.size w ((w1.setCell ⟨T,0,none⟩ (.int .i64 2)).setCell ⟨T,0,none⟩ (.int .i64 3))):=(BL1.out.setCell (p:=⟨T,0,none⟩) hBT _).setCell (p:=⟨T,0,none⟩) hBT _;clear c0 f0;generalize ((w1.setCell ⟨T,0,none⟩ (.int .i64 2)).setCell ⟨T,0,none⟩ (.int .i64 3))=w2 at PT2 TK2 BL2 ⊢;clear PT TK1 BL1 w1;obtain⟨J,hJ⟩:∃ J,J=k + 2:=⟨_,rfl⟩;have hJl:J≤s.length:=by omega
       have hJi:(k:Int) + 1 + 1=(J:Int):=by omega
       rw[hJi];have HJ:=Ld hJ;have hJk:k < J:=by omega
       clear hJi hJ
       go_upto_block 3 with fail
       go_cut [10] (fun v wx=>∃ i:Nat,v=.int .i64 (i:Int)∧J≤i∧i≤s.length∧Hid (Mk.z1h Mk.Q7 s J i)∧Hid (Mk.z02 Mk.Q7 s i)∧w2=wx)
       case first =>
        as_aux_lemma =>
         go_wp2_with fail
         go_loopw [10] (fun v wx=>∃ i:Nat,v=.int .i64 (i:Int)∧J≤i∧i≤s.length∧Hid (Mk.z1h Mk.Q7 s J i)∧w2=wx) (fun v _=>s.length - (intOf v).toNat)
         case atStart=>exact⟨J,by go_num,Lr,by omega,Mk.z1h.start (by omega),rfl⟩
         case round =>
          obtain⟨i,rfl,hJi,hil,HRU,hwx⟩:=hrel;subst hwx
          by_cases hlt:i < s.length
          ·obtain⟨x,hx⟩:∃ x,s[i]=x:=⟨_,rfl⟩
           have hget:∀ h,(st s)[i]'h=x:=fun _=>hx
           have hlti:(i:Int) < s.length:=by omega
           have hb9:=x.toNat_lt;have hb8:(x.toNat:Int) < 256:=by omega
           have hiw:=z2a x w2;obtain⟨b,hb⟩:∃ b,Mk.white x=b:=⟨_,rfl⟩;rw[hb] at hiw;have HIW:=Ld hiw;have HQ:=Ld (Mk.tag_of x b hb);have HX:=Ld hx;clear hiw hb hx
           cases b with
           | true =>
            have HT:Hid (Mk.Q7 x=false):=by show _=_;rw[HQ.out];rfl
            clear HQ;go_wp2_with fail;refine HIW.out.mono ?_;rintro e w9 ⟨rfl,hw9⟩;subst hw9;go_wp2_with fail;go_meet
            case rel=>exact⟨i,rfl,hJi,hil,HRU.out,Mk.z02.at_ hlt x HX.out HT.out,(by trivial)⟩
           | false =>
            rcases X9 x 47 with ⟨y47,p47⟩ | ⟨y47,p47⟩
            ·have q47:((x.toNat:Int) == 47)=true:=p47
             have r47:((x.toNat:Int) != 47)=false:=by rw[bne,q47];rfl
             have HT:Hid (Mk.Q7 x=false):=by show _=_;rw[HQ.out,y47];simp
             clear HQ p47;clear y47;go_wp2_with fail;refine HIW.out.mono ?_;rintro e w9 ⟨rfl,hw9⟩;subst hw9;go_wp2_with fail;go_meet
             case rel=>exact⟨i,rfl,hJi,hil,HRU.out,Mk.z02.at_ hlt x HX.out HT.out,(by trivial)⟩
            have q47:((x.toNat:Int) == 47)=false:=p47;have r47:((x.toNat:Int) != 47)=true:=by rw[bne,q47];rfl
            rcases X9 x 62 with ⟨y62,p62⟩ | ⟨y62,p62⟩
            ·have q62:((x.toNat:Int) == 62)=true:=p62
             have r62:((x.toNat:Int) != 62)=false:=by rw[bne,q62];rfl
             have HT:Hid (Mk.Q7 x=false):=by show _=_;rw[HQ.out,y62];simp
             clear HQ p62 y47 p47;clear y62;go_wp2_with fail;refine HIW.out.mono ?_;rintro e w9 ⟨rfl,hw9⟩;subst hw9;go_wp2_with fail;go_meet
             case rel=>exact⟨i,rfl,hJi,hil,HRU.out,Mk.z02.at_ hlt x HX.out HT.out,(by trivial)⟩
            have q62:((x.toNat:Int) == 62)=false:=p62;have r62:((x.toNat:Int) != 62)=true:=by rw[bne,q62];rfl
            have HT:Hid (Mk.Q7 x=true):=by show _=_;rw[HQ.out];simp[y47,y62]
            clear HQ y47 y62;go_wp2_with fail;refine HIW.out.mono ?_;rintro e w9 ⟨rfl,hw9⟩;subst hw9;go_wp2_with fail;go_roundw
            case rel=>exact⟨i + 1,by go_num,by omega,hlt,HRU.out.next hlt x HX.out HT.out,(by trivial)⟩
            case measure=>simp[intOf];omega
          ·have HE:Hid (Mk.z02 Mk.Q7 s i):=.inl (by omega)
           have hlti:¬ (i:Int) < s.length:=by omega
           go_wp2_with fail;go_meet
           case rel=>exact⟨i,rfl,hJi,hil,HRU.out,HE,(by trivial)⟩
       case rest =>
       as_aux_lemma =>
       obtain⟨en,rfl,hena,henb,hen,een,hwx⟩:=hcut;subst hwx;have HTCLOSE:=Ld (Mk.close_at hen.out een.out);have hfo:=fun W=>z8u ((st s).extract J en) W (by rw[Z4,y9,List.length_take,List.length_drop,z0b];omega)
       rw[Z4,z0b,z0b] at hfo;obtain⟨nm,hnm⟩:∃ nm,Mg.fold ((s.drop J).take (en - J))=nm:=⟨_,rfl⟩;have hnl:nm.length≤s.length:=by rw[← hnm];unfold Mg.fold;rw[List.length_map,List.length_take,List.length_drop];omega
       rw[hnm] at hfo HTCLOSE;have HFO:Hid (∀ W,Calls prog 35 #[.string ((st s).extract J en)] W fun e w'=>e=.returned (.string (st nm))∧Below W.heap.size W w'):=by rw[Z4,z0b];exact hfo
       have hle1:(J:Int)≤en:=by omega
       have hle2:(en:Int)≤s.length:=by omega
       have hken:k < en:=by omega
       clear hfo hnm hen een;go_wp2_with fail;refine(HFO.out _).mono ?_;rintro e w3 ⟨rfl,hb3⟩;have PT3:=Ld (Blk.below PT2.out hb3 (Blk.lt PT2.out));have TK3:=Ld (TK2.out.below hb3);have BL3:=Ld (BL2.out.trans (hb3.mono BL2.out.size));have c1:w3.cell? ⟨T,1,none⟩=some (.string ⟨#[]⟩):=Blk.cell PT3.out 1;have f1:=Blk.frozen PT3.out 1;clear hb3 PT2 TK2 BL2 HFO;go_upto_region 22 with fail;have PT4:=Ld (Blk.set_ PT3.out 1 (.string (st nm)));have TK4:Hid (TkO (w3.setCell ⟨T,1,none⟩ (.string (st nm))) w.heap.size X w.heap.size tx ts ov xs):=TK3.out.frame fun b _ q=>by
        have hbT:b ≠ T:=by rintro rfl;rcases q with e | e | e | e;exact hXT e;exact hOT e;exact HVT.out e;exact KT.ne e ⟨_,PT3.out⟩ (by decide) rfl
        exact Below.heap_setCell w3 ⟨T,1,none⟩ _ b hbT
       have BL4:Hid (Below w.heap.size w (w3.setCell ⟨T,1,none⟩ (.string (st nm)))):=BL3.out.setCell (p:=⟨T,1,none⟩) hBT _;clear c1 f1;generalize (w3.setCell ⟨T,1,none⟩ (.string (st nm)))=w4 at PT4 TK4 BL4 ⊢;clear PT3 TK3 BL3 w3 w2;have d0:w4.cell? ⟨T,0,none⟩=some (.int .i64 3):=Blk.cell PT4.out 0;have hnx:=fun W=>z7z s [62] en W (by omega) (by omega) (by decide)
       cases hnt:Mk.nxt [62] (s.drop en) with
       | none =>
        rw[hnt] at hnx;have HNX:Hid (∀ W,Calls prog 37 #[.string (st s),.int .i64 (en:Int),.string (st [62])] W fun e w'=>e=.returned (.int .i64 (-1))∧w'=W):=hnx;clear hnx;have HST:Hid (Mk.Told s k (-1) 3 nm []):=.inr (.inl ⟨rfl,by rw[HO.out,← HJ.out,HTCLOSE.out,hnt]⟩);clear hnt HTCLOSE;go_wp2_with fail;refine(HNX.out _).mono ?_;rintro e w9 ⟨rfl,hw9⟩;subst w9;go_wp2_with fail;go_meet
        case rel=>exact⟨-1,3,nm,[],.slice none 0 0,rfl,HST,PT4,AtsV.nil _ _,TK4,BL4⟩
       | some i =>
        rw[hnt] at hnx;have hin2:=Mk.j5m [62] s en i hnt (by omega);obtain⟨E,hE⟩:∃ E,E=i + en:=⟨_,rfl⟩;rw[← hE] at hin2;have HNX:Hid (∀ W,Calls prog 37 #[.string (st s),.int .i64 (en:Int),.string (st [62])] W fun e w'=>e=.returned (.int .i64 (E:Int))∧w'=W):=by rw[hE];exact hnx
        have hEk:k≤E:=by omega
        have hEs:E < s.length:=by simp at hin2;omega
        clear hnx;have HST:Hid (Mk.Told s k ((E + 1:Nat):Int) 3 nm []):=by
         refine .inr (.inr ⟨E + 1,rfl,by omega,by omega,hnl,?_⟩);rw[HO.out,← HJ.out,HTCLOSE.out,hnt,hE]
         cases hin:Mk.isName nm with
         | true=>exact .inl ⟨by decide,rfl,rfl⟩
         | false=>exact .inr ⟨.inr rfl,rfl⟩
        clear hnt HTCLOSE hin2 hE;go_wp2_with fail;refine(HNX.out _).mono ?_;rintro e w9 ⟨rfl,hw9⟩;subst w9;go_wp2_with fail;go_meet
        case rel=>exact⟨((E + 1:Nat):Int),3,nm,[],.slice none 0 0,by go_num,HST,PT4,AtsV.nil _ _,TK4,BL4⟩
      | false =>
       as_aux_lemma =>
       clear c0 f0;have hB':(Mg.pre [60,47] (s.drop k) && Mk.z1y (s.drop (k + 2)))=false:=by rw[HP2.out,HL2.out];exact hB
       have HB:=Ld hB';clear hB hB'
       cases C with
       | true =>
        as_aux_lemma =>
        have hk2:k + 2≤s.length:=by
         have:=Mk.z6u HC.out;rw[List.length_drop] at this;simp at this;omega
        have HO:=Ld (Mk.here_c s k HA.out HB.out HC.out);have HPA:=Ld (Mk.j5r [45,45,62] s (k + 2));clear SP2 SD1 SD2 HP2 HL2 HC HD1 HD2 HA HB;go_wp2_with fail;refine(SC.out _).mono ?_;rintro e w9 ⟨rfl,hw9⟩;subst w9;have hnx:=fun W=>z7z s [45,45,62] (k + 2) W (by omega) (by omega) (by decide)
        cases hnt:Mk.nxt [45,45,62] (s.drop (k + 2)) with
        | none =>
         rw[hnt] at hnx;have HNX:Hid (∀ W,Calls prog 37 #[.string (st s),.int .i64 ((k:Int) + 2),.string (st [45,45,62])] W fun e w'=>e=.returned (.int .i64 (-1))∧w'=W):=hnx;clear hnx;have HST:Hid (Mk.Told s k (-1) 0 [] []):=.inr (.inl ⟨rfl,by rw[HO.out,HPA.out,hnt]⟩);clear hnt HPA HO;go_wp2_with fail;refine(HNX.out _).mono ?_;rintro e w9 ⟨rfl,hw9⟩;subst w9;go_wp2_with fail;go_meet
         case rel=>exact⟨-1,0,[],[],.slice none 0 0,rfl,HST,PT,AtsV.nil _ _,TK1,BL1⟩
        | some i =>
         rw[hnt] at hnx;have hin2:=Mk.j5m [45,45,62] s (k + 2) i hnt (by omega);obtain⟨E,hE⟩:∃ E,E=i + (k + 2):=⟨_,rfl⟩;rw[← hE] at hin2;have HNX:Hid (∀ W,Calls prog 37 #[.string (st s),.int .i64 ((k:Int) + 2),.string (st [45,45,62])] W fun e w'=>e=.returned (.int .i64 (E:Int))∧w'=W):=by rw[hE];exact hnx
         have hEk:k≤E:=by omega
         have hEs:E < s.length:=by simp at hin2;omega
         clear hnx;have HST:Hid (Mk.Told s k ((E + 3:Nat):Int) 0 [] []):=.inr (.inr ⟨E + 3,rfl,by omega,by simp at hin2;omega,Nat.zero_le _,.inr ⟨.inl rfl,by rw[HO.out,HPA.out,hnt,hE];rfl⟩⟩);clear hnt HPA HO hin2 hE;go_wp2_with fail;refine(HNX.out _).mono ?_;rintro e w9 ⟨rfl,hw9⟩;subst w9;go_wp2_with fail;go_meet
         case rel=>exact⟨((E + 3:Nat):Int),0,[],[],.slice none 0 0,by go_num,HST,PT,AtsV.nil _ _,TK1,BL1⟩
       | false =>
        as_aux_lemma =>
        obtain⟨DD,hDD⟩:∃ b,(D1 || D2 || P2)=b:=⟨_,rfl⟩;have HDD:=Ld hDD;clear hDD;go_wp2_with fail;refine(SC.out _).mono ?_;rintro e w9 ⟨rfl,hw9⟩;subst w9;go_upto_region 31 with fail
        go_cut [130] (fun b wx=>b=.bool D1∧w1=wx)
        case first =>
         as_aux_lemma =>
         go_wp2_with fail;refine(SD1.out _).mono ?_;rintro e w9 ⟨rfl,hw9⟩;subst w9;go_wp2_with fail;go_meet
         case rel=>exact⟨rfl,rfl⟩
        case rest =>
        as_aux_lemma =>
        obtain⟨rfl,hwx⟩:=hcut;subst hwx;go_upto_if 130 with fail
        go_cut [130] (fun b wx=>b=.bool DD∧w1=wx)
        case first =>
         as_aux_lemma =>
         cases D1 with
         | true =>
          have HE:Hid (DD=true):=by show _=_;rw[← HDD.out];rfl
          go_wp2_with fail;go_meet
          case rel=>exact⟨by rw[HE.out],rfl⟩
         | false =>
          go_wp2_with fail;refine(SD2.out _).mono ?_;rintro e w9 ⟨rfl,hw9⟩;subst w9
          cases D2 with
          | true =>
           have HE:Hid (DD=true):=by show _=_;rw[← HDD.out];rfl
           go_wp2_with fail;go_meet
           case rel=>exact⟨by rw[HE.out],rfl⟩
          | false =>
           have HE:Hid (DD=P2):=by show _=_;rw[← HDD.out];rfl
           go_wp2_with fail;refine(SP2.out _).mono ?_;rintro e w9 ⟨rfl,hw9⟩;subst w9;go_wp2_with fail;go_meet
           case rel=>exact⟨by rw[HE.out],rfl⟩
        case rest =>
        as_aux_lemma =>
        obtain⟨rfl,hwx⟩:=hcut;subst hwx;have hDD:(Mg.pre [60,33] (s.drop k) || Mg.pre [60,63] (s.drop k) || Mg.pre [60,47] (s.drop k))=DD:=by rw[HD1.out,HD2.out,HP2.out];exact HDD.out
        cases DD with
        | false =>
         as_aux_lemma =>
         have HST:Hid (Mk.Told s k (-2) 0 [] []):=.inl ⟨rfl,Mk.here_t s k HA.out HB.out HC.out hDD⟩;clear hDD;go_wp2_with fail;go_meet
         case rel=>exact⟨-2,0,[],[],.slice none 0 0,rfl,HST,PT,AtsV.nil _ _,TK1,BL1⟩
        | true =>
         as_aux_lemma =>
         have HO:=Ld (Mk.here_d s k HA.out HB.out HC.out hDD);have HPA:=Ld (Mk.j5r [62] s k);clear hDD SP2 SD1 SD2 HP2 HL2 HC HD1 HD2 HA HB HDD;have hnx:=fun W=>z7z s [62] k W (by omega) (by omega) (by decide)
         cases hnt:Mk.nxt [62] (s.drop k) with
         | none =>
          rw[hnt] at hnx;have HNX:Hid (∀ W,Calls prog 37 #[.string (st s),.int .i64 (k:Int),.string (st [62])] W fun e w'=>e=.returned (.int .i64 (-1))∧w'=W):=hnx;clear hnx;have HST:Hid (Mk.Told s k (-1) 0 [] []):=.inr (.inl ⟨rfl,by rw[HO.out,HPA.out,hnt]⟩);clear hnt HPA HO;go_wp2_with fail;refine(HNX.out _).mono ?_;rintro e w9 ⟨rfl,hw9⟩;subst w9;go_wp2_with fail;go_meet
          case rel=>exact⟨-1,0,[],[],.slice none 0 0,rfl,HST,PT,AtsV.nil _ _,TK1,BL1⟩
         | some i =>
          rw[hnt] at hnx;have hin2:=Mk.j5m [62] s k i hnt (by omega);obtain⟨E,hE⟩:∃ E,E=i + k:=⟨_,rfl⟩;rw[← hE] at hin2;have HNX:Hid (∀ W,Calls prog 37 #[.string (st s),.int .i64 (k:Int),.string (st [62])] W fun e w'=>e=.returned (.int .i64 (E:Int))∧w'=W):=by rw[hE];exact hnx
          have hEk:k≤E:=by omega
          have hEs:E < s.length:=by simp at hin2;omega
          clear hnx;have HST:Hid (Mk.Told s k ((E + 1:Nat):Int) 0 [] []):=.inr (.inr ⟨E + 1,rfl,by omega,by simp at hin2;omega,Nat.zero_le _,.inr ⟨.inl rfl,by rw[HO.out,HPA.out,hnt,hE];rfl⟩⟩);clear hnt HPA HO hin2 hE;go_wp2_with fail;refine(HNX.out _).mono ?_;rintro e w9 ⟨rfl,hw9⟩;subst w9;go_wp2_with fail;go_meet
          case rel=>exact⟨((E + 1:Nat):Int),0,[],[],.slice none 0 0,by go_num,HST,PT,AtsV.nil _ _,TK1,BL1⟩
    case rest =>
    as_aux_lemma =>
    obtain⟨tov,kd,nm,ats,va,rfl,HTO,PT2,AT2,TK2,BL2⟩:=hcut;obtain⟨w2,hw2⟩:∃ x,x=wc:=⟨_,rfl⟩;subst hw2;clear PT TK1 BL1;have cX:w2.cell? ⟨X,0,none⟩=some (.string (st tx)):=Blk.cell TK2.out.bx 0;have fX:=Blk.frozen TK2.out.bx 0
    rcases HTO.out with ⟨ht,hh⟩ | ⟨ht,hh⟩ | ⟨j,ht,hkj,hjl,hnl,hh⟩
    ·as_aux_lemma =>
     subst ht;have HT2:Hid (Mk.toks s=Mk.z5h (s.drop (k + 1)) (tx++[60]) ts):=by show _=_;rw[HT.out,HRD.out,hh]
     have q1:¬ 9223372036854775807 < (st tx).size + (st [60]).size:=by rw[y9,y9];simp;omega
     have TK3:=Ld (TK2.out.setText (tx++[60]));have BL3:=Ld (BL2.out.setCell (p:=⟨X,0,none⟩) TK2.out.hX (.string (st (tx++[60]))));have e60:(st tx++st [60])=st (tx++[60]):=q3g _ _;clear HT HRD HTO hh AT2 PT2;go_wp2_with fail;go_roundw
     case rel=>exact⟨k + 1,tx++[60],ts,ov,xs,by omega,by simp;omega,by omega,by go_num,HT2,by show TkO _ _ _ _ _ _ _ _;first | exact TK3.out | (have:=TK3.out;rw[← e60] at this;exact this),by show Below _ _ _;first | exact BL3.out | (have:=BL3.out;rw[← e60] at this;exact this)⟩
     case measure=>simp[intOf];omega
    ·as_aux_lemma =>
     subst ht;have HT2:Hid (Mk.toks s=Mk.z5h (s.drop s.length) (tx++s.drop k) ts):=by
      show _=_;rw[HT.out,HRD.out,hh,List.drop_of_length_le (Lr),Mk.q6x,HD.out]
     have hdl:(s.drop k).length≤s.length - k:=by rw[List.length_drop];omega
     have q1:¬ 9223372036854775807 < (st tx).size + (st (s.drop k)).size:=by rw[y9,y9];omega
     have hex:(st s).extract k s.length=st (s.drop k):=by rw[Z4,z0b,List.take_of_length_le hdl]
     have hki:(k:Int)≤s.length:=by omega
     have TK3:=Ld (TK2.out.setText (tx++s.drop k));have BL3:=Ld (BL2.out.setCell (p:=⟨X,0,none⟩) TK2.out.hX (.string (st (tx++s.drop k))));have hll:(tx++s.drop k).length≤s.length:=by rw[List.length_append];omega
     have EX:=Ld hex;generalize s.drop k=dk at HT2 hex q1 TK3 BL3 hll hdl EX;have edk:(st tx++st dk)=st (tx++dk):=q3g _ _;clear HT HRD HTO hh HD AT2 PT2;go_wp2_with fail
     go_region
     all_goals
      go_wp2_with fail;go_roundw
      case rel=>exact⟨s.length,tx++dk,ts,ov,xs,Lr,hll,by omega,by go_num,HT2,TK3.out.drew,BL3.out.drew⟩
      case measure=>simp[intOf];omega
    ·as_aux_lemma =>
     subst ht;have d0:w2.cell? ⟨T,0,none⟩=some (.int .i64 kd):=Blk.cell PT2.out 0;have d1:w2.cell? ⟨T,1,none⟩=some (.string (st nm)):=Blk.cell PT2.out 1;have hj1:((j:Int) == -1)=false:=by rw[beq_eq_false_iff_ne];omega
     have hj2:((j:Int) == -2)=false:=by rw[beq_eq_false_iff_ne];omega
     have hnn:=fun W=>q6m nm W (by omega)
     rcases hh with ⟨hk0,hin,hh⟩ | ⟨hno,hh⟩
     ·have HT2:Hid (Mk.toks s=Mk.z5h (s.drop j) [] (Mk.flush tx ts++[⟨kd,nm,ats,[]⟩])):=by show _=_;rw[HT.out,HRD.out,hh]
      have hk1:(kd == 0)=false:=by rw[beq_eq_false_iff_ne];exact hk0
      have hk2:(kd != 0)=true:=by rw[bne,hk1];rfl
      rw[hin] at hnn;have HN:=Ld hnn;have HFL:=Ld (q9n TK2.out (by omega) (by omega));have hfl:=z4a tx ts;clear HT HRD HTO hh hnn hk0 hin HD;go_wp2_with fail;refine(HN.out _).mono ?_;rintro e w9 ⟨rfl,hw9⟩;subst w9;go_wp2_with fail;refine HFL.out.mono ?_;rintro e w3 ⟨rfl,⟨ov3,xs3,tk3,hf3⟩,hb3,ha3⟩;have hTS:¬ TkS X w.heap.size ov T:=by rintro (e | e | e);exact hXT e;exact hOT e;exact HVT.out e
      have PT3:=Ld (Blk.ap PT2.out ha3 hTS);have AT3:=Ld (AT2.out.frame (K':=KT w3 w.heap.size) (fun b hb=>hb.keep (ha3.block b hb.lt (by rintro (e | e | e);exact TK2.out.kx hb e;exact TK2.out.ko hb e;exact TK2.out.kv hb e))));have TK3:=Ld tk3;have BL3:=Ld (BL2.out.trans hb3);have hsz3:=BL3.out.size;clear hb3 ha3 hTS PT2 AT2 TK2 BL2 HFL HN tk3 hf3 cX fX d0 d1;obtain⟨ao,cap,hva,_⟩:=id AT3.out;subst hva;generalize Mk.flush tx ts=ts3 at HT2 TK3 hfl;have d0:w3.cell? ⟨T,0,none⟩=some (.int .i64 kd):=Blk.cell PT3.out 0;have d1:w3.cell? ⟨T,1,none⟩=some (.string (st nm)):=Blk.cell PT3.out 1;have d2:w3.cell? ⟨T,2,none⟩=some (.slice ao ats.length cap):=Blk.cell PT3.out 2;have d3:w3.cell? ⟨T,3,none⟩=some (.string ⟨#[]⟩):=Blk.cell PT3.out 3;have cO:w3.cell? ⟨w.heap.size,0,none⟩=some ov3:=Blk.cell TK3.out.bo 0;obtain⟨i0,hi,hz0,hz1,hz2⟩:=info_parts Tryz.infoTok;have hbl:=TK3.out.blt;have ow10:=X8 TK3.out.own ((Ap.refl (fun _=>False) w3).alloc (.cells #[.int .i64 kd,.string (st nm),.slice ao ats.length cap,.string ⟨#[]⟩] 52)) (fun _ _ q=>q);have hb11:Below w3.heap.size w3 (w3.alloc (.cells #[.int .i64 kd,.string (st nm),.slice ao ats.length cap,.string ⟨#[]⟩] 52)):=(Below.refl _ w3).alloc (Lr) _;go_wp2_with (at_builtin;refine Q9 rfl _ _ 27 rfl w.heap.size 52 i0 (.agg #[.int .i64 0,.string ⟨#[]⟩,.slice none 0 0,.string ⟨#[]⟩]) 4 64 underlying27 hi hz0 hz1 hz2 rfl (by decide) _ _ _ rfl ow10 ⟨w3.heap.size,0,none⟩ 1 1 [.int .i64 kd,.string (st nm),.slice ao ats.length cap,.string ⟨#[]⟩] rfl rfl (Y9 _ _ _) (by intro u hu;simp at hu;rcases hu with rfl | rfl | rfl | rfl <;> rfl) (by decide) (by unfold maxLen;omega) (by omega) (by simp;omega) ?_);intro v' w4 hown' hgrow hfresh;obtain⟨r1,r2,r3⟩:=TK3.out.push (t:=⟨kd,nm,ats,[]⟩) (va:=.slice ao ats.length cap) AT3.out hb11 hown' hgrow (hfresh.imp id (fun e=>by rw[e];simp));have R1:=Ld r1;have R2:=Ld r2;have fO':w4.frozen? ⟨w.heap.size,0,none⟩=false:=by
       have:=Blk.frozen r1.bo 0
       rwa [World.frozen?_setCell] at this
      have cO':w4.cell? ⟨w.heap.size,0,none⟩=some ov3:=by
       have hO:Blk w4 w.heap.size 27 #[ov3]:=(hgrow.block w.heap.size (Nat.lt_of_lt_of_le (Blk.lt TK3.out.bo) hb11.size) (fun e=>TK3.out.no e.symm)).trans ((hb11.block w.heap.size (Blk.lt TK3.out.bo)).trans TK3.out.bo);exact Blk.cell hO 0
      obtain⟨ao4,cap4,rfl⟩:=Y1 hown';clear hown' hgrow hfresh r1 r2 r3 ow10 hb11 cO d0 d1 d2 d3;go_wp2_with fail;go_roundw
      case rel=>exact⟨j,[],ts3++[⟨kd,nm,ats,[]⟩],_,_,hjl,Nat.zero_le _,by rw[List.length_append,List.length_singleton];omega,rfl,HT2,R1,Ld (BL3.out.trans R2.out)⟩
      case measure=>simp[intOf];omega
     ·have HT2:Hid (Mk.toks s=Mk.z5h (s.drop j) tx ts):=by show _=_;rw[HT.out,HRD.out,hh]
      clear HT HRD HTO hh HD
      by_cases hk0:kd=0
      ·have hk1:(kd == 0)=true:=by rw[beq_iff_eq];exact hk0
       have hk2:(kd != 0)=false:=by rw[bne,hk1];rfl
       clear hk0 hno hnn;go_wp2_with fail;go_roundw
       case rel=>exact⟨j,tx,ts,ov,xs,hjl,by omega,by omega,rfl,HT2,TK2,BL2⟩
       case measure=>simp[intOf];omega
      ·have hk1:(kd == 0)=false:=by rw[beq_eq_false_iff_ne];exact hk0
       have hk2:(kd != 0)=true:=by rw[bne,hk1];rfl
       have hin:=hno.resolve_left hk0;rw[hin] at hnn;have HN:=Ld hnn;clear hk0 hno hnn hin;go_wp2_with fail;refine(HN.out _).mono ?_;rintro e w9 ⟨rfl,hw9⟩;subst w9;go_wp2_with fail;go_roundw
       case rel=>exact⟨j,tx,ts,ov,xs,hjl,by omega,by omega,rfl,HT2,TK2,BL2⟩
       case measure=>simp[intOf];omega
   ·have q60:((x.toNat:Int) == 60)=false:=p60
    have r60:((x.toNat:Int) != 60)=true:=by rw[bne,q60];rfl
    have HT2:Hid (Mk.toks s=Mk.z5h (s.drop (k + 1)) (tx++[x]) ts):=by show _=_;rw[HT.out,hd,Mk.q1y x _ _ _ y60]
    have q1:¬ 9223372036854775807 < (st tx).size + (st [x]).size:=by rw[y9,y9];simp;omega
    have hex:(st s).extract k (k + 1)=st [x]:=by rw[j6f s k hlt,hx]
    have TK3:=Ld (TK.out.setText (tx++[x]));have BL3:=Ld (BL.out.setCell (p:=⟨X,0,none⟩) TK.out.hX (.string (st (tx++[x]))));have e60:(st tx++st [x])=st (tx++[x]):=q3g _ _;clear HT hd hx p60 y60
    as_aux_lemma =>
    go_wp2_with fail
    go_region
    all_goals
     go_wp2_with fail;go_roundw
     case rel=>exact⟨k + 1,tx++[x],ts,ov,xs,by omega,by simp;omega,by omega,by go_num,HT2,TK3.out.drew,BL3.out.drew⟩
     case measure=>simp[intOf];omega
  ·have hke:k=s.length:=by omega
   have HT2:Hid (Mk.toks s=Mk.flush tx ts):=by show _=_;rw[HT.out,List.drop_of_length_le (by omega),Mk.q6x]
   have hfl:=z4a tx ts;have HFL:=Ld (q9n TK.out (by omega) (by omega));have hlti:¬ (k:Int) < s.length:=by omega
   clear HT cX fX
   as_aux_lemma =>
   go_wp2_with fail;refine HFL.out.mono ?_;rintro e w3 ⟨rfl,⟨ov3,xs3,tk3,_⟩,hb3,_⟩;have TK3:=Ld tk3;have BL3:=Ld (BL.out.trans hb3);have cO:w3.cell? ⟨w.heap.size,0,none⟩=some ov3:=Blk.cell TK3.out.bo 0;clear tk3 hb3 HFL TK BL;go_wp2_with fail;go_ret;exact⟨ov3,rfl,by rw[HT2.out];exact TK3.out.toks (by unfold maxLen;omega),BL3.out⟩
end Go.Proofs.YtagleefekmdldaaGreatDoor
namespace Mk
open Fo
structure Ln where
 ti:Bs
 li:Bs
 dt:Bs
 wo:Bs
def lineB (x:Ln):Bs:=[60,108,105,62]++((if x.li=[] then put x.ti else [60,97,32,104,114,101,102,61,34]++put x.li++[34,62]++put x.ti++[60,47,97,62])++(x.dt++([60,112,62]++put x.wo++[60,47,112,62]++[60,47,108,105,62])))
def j2a (l:List Ln):Bs:=[60,117,108,62]++l.flatMap lineB++[60,47,117,108,62]
def textF (s:Bs) (r:Fo):Fo:=if s=[] then r else node [] [] s nil r
def z6z (w:Bs):Fo:=node [112] [] [] (textF w nil) nil
def q1i (x:Ln):Fo:=if x.li=[] then textF (x.ti++x.dt) (z6z x.wo) else node [97] [⟨[104,114,101,102],x.li⟩] [] (textF x.ti nil) (textF x.dt (z6z x.wo))
def z5t:List Ln→Fo
 | []=>nil
 | x :: l=>node [108,105] [] [] (q1i x) (z5t l)
def q2c (l:List Ln):Fo:=node [117,108] [] [] (z5t l) nil
theorem q3b (a b:Bs):put (a++b)=put a++put b:=by unfold put;rw[List.flatMap_append]
theorem bytes_append (a b:List Tok):bytes (a++b)=bytes a++bytes b:=by unfold bytes;rw[List.flatMap_append]
theorem z8i (a:Tok) (b:List Tok):bytes (a :: b)=X3 a++bytes b:=rfl
theorem z4p (s:Bs) (r:Fo):bytes (flat (textF s r))=put s++bytes (flat r):=by
 unfold textF
 split
 ·rename_i h;rw[h];rfl
 ·rw[flat,if_pos rfl,z8i];rfl
theorem z9z (n:Bs) (a:List At) (k r:Fo) (hn:n ≠ []) (he:z0n n=false):bytes (flat (node n a [] k r))=[60]++n++written a++[62]++bytes (flat k)++([60,47]++n++[62])++bytes (flat r):=by
 have e2:X3 ⟨2,n,a,[]⟩=[60]++n++written a++[62]:=rfl;have e3:X3 ⟨3,n,[],[]⟩=[60,47]++n++[62]:=rfl;have e4:bytes [⟨3,n,[],[]⟩]=[60,47]++n++[62]:=by rw[z8i,e3];simp[bytes]
 rw[flat,if_neg hn,he,z8i,e2,bytes_append];simp only [Bool.false_eq_true,if_false];rw[bytes_append,e4];simp only [List.append_assoc]
theorem q0s (w:Bs):bytes (flat (z6z w))=[60,112,62]++put w++[60,47,112,62]:=by
 unfold z6z;rw[z9z _ _ _ _ (by decide) (by decide),z4p];simp[written,flat,bytes]
theorem j0o (x:Ln) (hd:put x.dt=x.dt):bytes (flat (q1i x))=(if x.li=[] then put x.ti else [60,97,32,104,114,101,102,61,34]++put x.li++[34,62]++put x.ti++[60,47,97,62])++(x.dt++([60,112,62]++put x.wo++[60,47,112,62])):=by
 unfold q1i
 split
 ·rw[z4p,q0s,q3b,hd,List.append_assoc]
 ·rw[z9z _ _ _ _ (by decide) (by decide),z4p,z4p,q0s,hd]
  simp[written,flat,bytes]
theorem q0r:∀ (l:List Ln),(∀ x ∈ l,put x.dt=x.dt)→bytes (flat (z5t l))=l.flatMap lineB
 | [],_=>rfl
 | x :: l,h=>by
  have ih:=q0r l (fun y hy=>h y (List.mem_cons_of_mem _ hy));unfold z5t;rw[z9z _ _ _ _ (by decide) (by decide),j0o x (h x (List.mem_cons_self ..)),ih,List.flatMap_cons];unfold lineB;simp[written]
theorem j0p (l:List Ln) (h:∀ x ∈ l,put x.dt=x.dt):bytes (flat (q2c l))=j2a l:=by
 unfold q2c j2a;rw[z9z _ _ _ _ (by decide) (by decide),q0r l h];simp[written,flat,bytes]
theorem z4r (s:Bs) (r:Fo) (names:List Bs) (h:Y2 r names true=0) (h2:Y2 r names false=0):Y2 (textF s r) names false=0:=by
 unfold textF
 split
 ·exact h2
 ·rename_i hs
  rw[Y2];have e:z0p names [] [] s nil=0:=by unfold z0p;rw[if_pos rfl,if_neg];rintro (q | q | q);exact hs q;exact q rfl;exact q rfl
  rw[e];simp[Y2,h]
theorem z4s (w:Bs) (p:Bool):Y2 (z6z w) [[117,108],[108,105]] p=0:=by
 unfold z6z;rw[Y2];have e:z0p [[117,108],[108,105]] [112] [] [] (textF w nil)=0:=rfl;have e2:Y2 (textF w nil) ([[117,108],[108,105]]++[[112]]) false=0:=z4r w nil _ rfl rfl;rw[e,e2];simp[Y2]
theorem j0r (x:Ln):Y2 (q1i x) [[117,108],[108,105]] false=0:=by
 unfold q1i
 split
 ·exact z4r _ _ _ (z4s _ _) (z4s _ _)
 ·rw[Y2]
  have e:z0p [[117,108],[108,105]] [97] [⟨[104,114,101,102],x.li⟩] [] (textF x.ti nil)=0:=rfl;have e2:Y2 (textF x.ti nil) ([[117,108],[108,105]]++[[97]]) false=0:=z4r _ nil _ rfl rfl;have e3:Y2 (textF x.dt (z6z x.wo)) [[117,108],[108,105]] false=0:=z4r _ _ _ (z4s _ _) (z4s _ _);rw[e,e2];simp[e3]
theorem q0t:∀ (l:List Ln) (p:Bool),Y2 (z5t l) [[117,108]] p=0
 | [],_=>rfl
 | x :: l,p=>by
  have ih:=q0t l false;unfold z5t;rw[Y2];have e:z0p [[117,108]] [108,105] [] [] (q1i x)=0:=rfl;have e2:Y2 (q1i x) ([[117,108]]++[[108,105]]) false=0:=j0r x;rw[e,e2];simp[ih]
theorem j0s (l:List Ln):Y2 (q2c l) [] false=0:=by
 unfold q2c;rw[Y2];have e:z0p [] [117,108] [] [] (z5t l)=0:=rfl;have e2:Y2 (z5t l) ([]++[[117,108]]) false=0:=q0t l false;rw[e,e2];simp[Y2]
theorem z4u (s:Bs) (r:Fo):(textF s r).depth=r.depth:=by
 unfold textF
 split
 ·rfl
 ·rfl
theorem j0y (x:Ln):(q1i x).depth≤1:=by
 have hw:(z6z x.wo).depth≤1:=by
  unfold z6z;rw[depth,if_neg (by decide),z4u];decide
 unfold q1i
 split
 ·rw[z4u];exact hw
 ·rw[depth,if_neg (by decide),z4u,z4u]
  have e:Fo.depth nil=0:=rfl;rw[e];omega
theorem q14:∀ l:List Ln,(z5t l).depth≤2
 | []=>by decide
 | x :: l=>by
  have ih:=q14 l;have hk:=j0y x;unfold z5t;rw[depth,if_neg (by decide)];omega
theorem j0z (l:List Ln):(q2c l).depth≤8:=by
 have h:=q14 l;unfold q2c;rw[depth,if_neg (by decide)];have e:Fo.depth nil=0:=rfl;rw[e];omega
theorem z3n (s:Bs) (r:Fo) (h:Stable [] r):Stable [] (textF s r):=by
 unfold textF
 split
 ·exact h
 ·exact⟨fun q=>absurd rfl q,trivial,h⟩
theorem z9k (w:Bs):Stable [] (z6z w):=⟨fun _=>⟨rfl,rfl,rfl,rfl,fun q=>by cases q.1⟩,z3n _ _ trivial,trivial⟩
theorem q8k (x:Ln) (h:x.li=[]∨z07 x.li=true):Stable [] (q1i x):=by
 unfold q1i
 split
 ·exact z3n _ _ (z9k _)
 ·rename_i hl
  have hg:z07 x.li=true:=h.elim (fun q=>absurd q hl) id;refine⟨fun _=>⟨rfl,rfl,rfl,?_,fun q=>by cases q.1⟩,z3n _ _ trivial,z3n _ _ (z9k _)⟩;unfold Q5;simp only [List.flatMap_cons,List.flatMap_nil,List.append_nil];unfold z2m;have e1:¬(!mayB [97] [104,114,101,102])=true:=by decide
  have e2:z9s [104,114,101,102]=true:=by decide
  rw[if_neg e1,if_pos e2,j5e,if_pos hg]
theorem z9j:∀ l:List Ln,(∀ x ∈ l,x.li=[]∨z07 x.li=true)→Stable [] (z5t l)
 | [],_=>trivial
 | x :: l,h=>⟨fun _=>⟨rfl,rfl,rfl,rfl,fun q=>by cases q.1⟩,q8k x (h x (List.mem_cons_self ..)),z9j l (fun y hy=>h y (List.mem_cons_of_mem _ hy))⟩
theorem j4z (l:List Ln) (hd:∀ x ∈ l,put x.dt=x.dt) (hl:∀ x ∈ l,x.li=[]∨z07 x.li=true):html [] (j2a l)=j2a l:=by
 have hc:=j0s l;have hst:Stable [] (q2c l):=⟨fun _=>⟨rfl,rfl,rfl,rfl,fun q=>by cases q.1⟩,z9j l hl,trivial⟩;have hcl:clean [] (q2c l)=q2c l:=by
  unfold clean;exact q8l [] (q2c l) [] nil hst (q7n _ _ _ hc) hc
 unfold html;rw[← j0p l hd,j6c _ hc,Bld.j0n _ hc (j0z l),hcl]
end Mk
