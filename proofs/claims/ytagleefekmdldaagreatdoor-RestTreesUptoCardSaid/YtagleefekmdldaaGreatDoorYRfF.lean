/- Contract of the reference's attrsAt. Condition: a text of at most 1048576 bytes. -/
import Derived.Test.YtagleefekmdldaaGreatDoorYRsB
import Derived.Test.YtagleefekmdldaaGreatDoorYRfD
import Derived.Test.YtagleefekmdldaaGreatDoorYUrlD
import Derived.Test.YtagleefekmdldaaGreatDoorYMkTok5
import Derived.Test.YtagleefekmdldaaGreatDoorYMkTok7
set_option linter.unusedVariables false
set_option linter.unusedSimpArgs false
set_option maxHeartbeats 16000000
set_option maxRecDepth 100000
namespace Go.Proofs.YtagleefekmdldaaGreatDoor
open Go.Proofs.Tryz Go.RowKit
theorem j2i (s:List UInt8) (k:Nat) (w:World) (hk:k ≤ s.length) (hs:s.length ≤ 1048576) :
    Calls prog 36 #[.string (st s), .int .i64 k] w fun e w' => Below w.heap.size w w' ∧
      ((Mk.z1c (s.drop k)=none ∧ e=.returned (.tuple #[.slice none 0 0, .int .i64 (-1)])) ∨
       ∃ l j v, Mk.z1c (s.drop k)=some (l, s.drop j) ∧ k < j ∧ j ≤ s.length ∧ l.length ≤ s.length ∧ e=.returned (.tuple #[v, .int .i64 (j:Nat)]) ∧ w'.ownsRow w.heap.size 73 2 v l.length (Z5 l)) := by
  have e1:(st s).size=s.length := y9 s
  go_enter func36, ntmps36
  go_wp2_with fail
  go_loopw [1, 6] (fun a o wr => ∃ (j:Nat) (out:List Mk.At), k ≤ j ∧ j ≤ s.length ∧ out.length ≤ j ∧ a=.int .i64 (j:Int) ∧ Hid (Mk.z1c (s.drop k)=Mk.z98 (s.drop j) out) ∧ Hid (wr.ownsRow w.heap.size 73 2 o out.length (Z5 out)) ∧ Hid (Below w.heap.size w wr)) (fun a _ _ => s.length - (intOf a).toNat)
  case atStart => exact⟨k, [], Lr, hk, Nat.zero_le _, rfl, rfl, World.ownsRow_nil _ _ _ _, Below.refl _ _⟩
  case round =>
    obtain⟨j, out, hkj, hj, hol, rfl, HA, OW, BL⟩ := hrel
    go_upto_block 2 with fail
    go_cut [1] (fun v wx => ∃ i:Nat, v=.int .i64 (i:Int) ∧ j ≤ i ∧ i ≤ s.length ∧ Hid (Mk.z1h Mk.sepB s j i) ∧ Hid (Mk.z02 Mk.sepB s i) ∧ wr=wx)
    case first =>
      as_aux_lemma =>
        go_wp2_with fail
        go_loopw [1] (fun v wx => ∃ i:Nat, v=.int .i64 (i:Int) ∧ j ≤ i ∧ i ≤ s.length ∧ Hid (Mk.z1h Mk.sepB s j i) ∧ wr=wx) (fun v _ => s.length - (intOf v).toNat)
        case atStart => exact⟨j, by go_num, Lr, by omega, Mk.z1h.start (by omega), rfl⟩
        case round =>
          obtain⟨i, rfl, hJi, hil, HRU, hwx⟩ := hrel
          subst hwx
          by_cases hlt:i < s.length
          · obtain⟨x, hx⟩:∃ x, s[i]=x := ⟨_, rfl⟩
            have hget:∀ h, (st s)[i]'h=x := fun _ => hx
            have hlti:(i:Int) < s.length := by omega
            have hb9 := x.toNat_lt
            have hb8:(x.toNat:Int) < 256 := by omega
            have hiw := z2a x wr
            obtain⟨b, hb⟩:∃ b, Mk.white x=b := ⟨_, rfl⟩
            rw[hb] at hiw
            have HIW := Ld hiw
            have HQ := Ld (Mk.sep_of x b hb)
            have HX := Ld hx
            clear hiw hb hx
            cases b with
            | true =>
              have HT:Hid (Mk.sepB x=true) := by show _=_; rw[HQ.out]; rfl
              clear HQ
              go_wp2_with fail
              refine HIW.out.mono ?_
              rintro e w9 ⟨rfl, hw9⟩
              subst hw9
              go_wp2_with fail
              go_roundw
              case rel => exact⟨i + 1, by go_num, by omega, hlt, HRU.out.next hlt x HX.out HT.out, (by trivial)⟩
              case measure => simp[intOf]; omega
            | false =>
              rcases X9 x 47 with ⟨y47, p47⟩ | ⟨y47, p47⟩
              · have q47:((x.toNat:Int) == 47)=true := p47
                have r47:((x.toNat:Int) != 47)=false := by rw[bne, q47]; rfl
                have HT:Hid (Mk.sepB x=true) := by show _=_; rw[HQ.out, y47]; simp
                clear HQ p47
                clear y47
                go_wp2_with fail
                refine HIW.out.mono ?_
                rintro e w9 ⟨rfl, hw9⟩
                subst hw9
                go_wp2_with fail
                go_roundw
                case rel => exact⟨i + 1, by go_num, by omega, hlt, HRU.out.next hlt x HX.out HT.out, (by trivial)⟩
                case measure => simp[intOf]; omega
              have q47:((x.toNat:Int) == 47)=false := p47
              have r47:((x.toNat:Int) != 47)=true := by rw[bne, q47]; rfl
              have HT:Hid (Mk.sepB x=false) := by show _=_; rw[HQ.out]; simp[y47]
              clear HQ y47
              go_wp2_with fail
              refine HIW.out.mono ?_
              rintro e w9 ⟨rfl, hw9⟩
              subst hw9
              go_wp2_with fail
              go_meet
              case rel => exact⟨i, rfl, hJi, hil, HRU.out, Mk.z02.at_ hlt x HX.out HT.out, (by trivial)⟩
          · have HE:Hid (Mk.z02 Mk.sepB s i) := .inl (by omega)
            have hlti:¬ (i:Int) < s.length := by omega
            go_wp2_with fail
            go_meet
            case rel => exact⟨i, rfl, hJi, hil, HRU.out, HE, (by trivial)⟩
    case rest =>
    as_aux_lemma =>
    obtain⟨i1, rfl, hi1a, hi1b, hi1, ei1, hwx⟩ := hcut
    subst hwx
    have E1 := Ld (Mk.z5c hi1.out ei1.out)
    clear hi1 ei1
    rw[Mk.q5h, E1.out] at HA
    clear E1
    by_cases hlt1:i1 < s.length
    · obtain⟨c, hc⟩:∃ c, s[i1]=c := ⟨_, rfl⟩
      have hget:∀ h, (st s)[i1]'h=c := fun _ => hc
      have hlti1:(i1:Int) < s.length := by omega
      have hne1:((i1:Int) == (s.length:Int))=false := by rw[beq_eq_false_iff_ne]; omega
      have hb9 := c.toNat_lt
      have hb8:(c.toNat:Int) < 256 := by omega
      rw[List.drop_eq_getElem_cons hlt1, hc] at HA
      simp only at HA
      have HCC := Ld hc
      clear hc
      rcases X9 c 62 with ⟨y62, p62⟩ | ⟨y62, p62⟩
      · have q62:((c.toNat:Int) == 62)=true := p62
        rw[if_pos y62] at HA
        clear p62 y62 HCC
        go_wp2_with fail
        go_ret2
        exact⟨BL.out, .inr ⟨out, i1 + 1, _, HA.out, by omega, by omega, by omega, rfl, OW.out⟩⟩
      · have q62:((c.toNat:Int) == 62)=false := p62
        rw[if_neg y62] at HA
        clear p62 y62
        obtain⟨J, hJ⟩:∃ J, J=i1 + 1 := ⟨_, rfl⟩
        have hJl:J ≤ s.length := by omega
        have hJi:(i1:Int) + 1=(J:Int) := by omega
        rw[← hJ] at HA
        have HJ := Ld hJ
        have HJi := Ld hJi
        clear hJ hJi
        go_upto_block 4 with fail
        go_cut [1] (fun v wx => ∃ i:Nat, v=.int .i64 (i:Int) ∧ J ≤ i ∧ i ≤ s.length ∧ Hid (Mk.z1h Mk.Y6 s J i) ∧ Hid (Mk.z02 Mk.Y6 s i) ∧ wr=wx)
        case first =>
          as_aux_lemma =>
            go_wp2_with fail
            go_loopw [1] (fun v wx => ∃ i:Nat, v=.int .i64 (i:Int) ∧ J ≤ i ∧ i ≤ s.length ∧ Hid (Mk.z1h Mk.Y6 s J i) ∧ wr=wx) (fun v _ => s.length - (intOf v).toNat)
            case atStart => exact⟨J, by rw[← HJi.out], Lr, by omega, Mk.z1h.start (by omega), rfl⟩
            case round =>
              obtain⟨i, rfl, hJi, hil, HRU, hwx⟩ := hrel
              subst hwx
              by_cases hlt:i < s.length
              · obtain⟨x, hx⟩:∃ x, s[i]=x := ⟨_, rfl⟩
                have hget:∀ h, (st s)[i]'h=x := fun _ => hx
                have hlti:(i:Int) < s.length := by omega
                have hb9 := x.toNat_lt
                have hb8:(x.toNat:Int) < 256 := by omega
                have hiw := z2a x wr
                obtain⟨b, hb⟩:∃ b, Mk.white x=b := ⟨_, rfl⟩
                rw[hb] at hiw
                have HIW := Ld hiw
                have HQ := Ld (Mk.stop_of x b hb)
                have HX := Ld hx
                clear hiw hb hx
                cases b with
                | true =>
                  have HT:Hid (Mk.Y6 x=false) := by show _=_; rw[HQ.out]; rfl
                  clear HQ
                  go_wp2_with fail
                  refine HIW.out.mono ?_
                  rintro e w9 ⟨rfl, hw9⟩
                  subst hw9
                  go_wp2_with fail
                  go_meet
                  case rel => exact⟨i, rfl, hJi, hil, HRU.out, Mk.z02.at_ hlt x HX.out HT.out, (by trivial)⟩
                | false =>
                  rcases X9 x 47 with ⟨y47, p47⟩ | ⟨y47, p47⟩
                  · have q47:((x.toNat:Int) == 47)=true := p47
                    have r47:((x.toNat:Int) != 47)=false := by rw[bne, q47]; rfl
                    have HT:Hid (Mk.Y6 x=false) := by show _=_; rw[HQ.out, y47]; simp
                    clear HQ p47
                    clear y47
                    go_wp2_with fail
                    refine HIW.out.mono ?_
                    rintro e w9 ⟨rfl, hw9⟩
                    subst hw9
                    go_wp2_with fail
                    go_meet
                    case rel => exact⟨i, rfl, hJi, hil, HRU.out, Mk.z02.at_ hlt x HX.out HT.out, (by trivial)⟩
                  have q47:((x.toNat:Int) == 47)=false := p47
                  have r47:((x.toNat:Int) != 47)=true := by rw[bne, q47]; rfl
                  rcases X9 x 62 with ⟨y62, p62⟩ | ⟨y62, p62⟩
                  · have q62:((x.toNat:Int) == 62)=true := p62
                    have r62:((x.toNat:Int) != 62)=false := by rw[bne, q62]; rfl
                    have HT:Hid (Mk.Y6 x=false) := by show _=_; rw[HQ.out, y62]; simp
                    clear HQ p62 y47 p47
                    clear y62
                    go_wp2_with fail
                    refine HIW.out.mono ?_
                    rintro e w9 ⟨rfl, hw9⟩
                    subst hw9
                    go_wp2_with fail
                    go_meet
                    case rel => exact⟨i, rfl, hJi, hil, HRU.out, Mk.z02.at_ hlt x HX.out HT.out, (by trivial)⟩
                  have q62:((x.toNat:Int) == 62)=false := p62
                  have r62:((x.toNat:Int) != 62)=true := by rw[bne, q62]; rfl
                  rcases X9 x 61 with ⟨y61, p61⟩ | ⟨y61, p61⟩
                  · have q61:((x.toNat:Int) == 61)=true := p61
                    have r61:((x.toNat:Int) != 61)=false := by rw[bne, q61]; rfl
                    have HT:Hid (Mk.Y6 x=false) := by show _=_; rw[HQ.out, y61]; simp
                    clear HQ p61 y47 p47 y62 p62
                    clear y61
                    go_wp2_with fail
                    refine HIW.out.mono ?_
                    rintro e w9 ⟨rfl, hw9⟩
                    subst hw9
                    go_wp2_with fail
                    go_meet
                    case rel => exact⟨i, rfl, hJi, hil, HRU.out, Mk.z02.at_ hlt x HX.out HT.out, (by trivial)⟩
                  have q61:((x.toNat:Int) == 61)=false := p61
                  have r61:((x.toNat:Int) != 61)=true := by rw[bne, q61]; rfl
                  have HT:Hid (Mk.Y6 x=true) := by show _=_; rw[HQ.out]; simp[y47, y62, y61]
                  clear HQ y47 y62 y61
                  go_wp2_with fail
                  refine HIW.out.mono ?_
                  rintro e w9 ⟨rfl, hw9⟩
                  subst hw9
                  go_wp2_with fail
                  go_roundw
                  case rel => exact⟨i + 1, by go_num, by omega, hlt, HRU.out.next hlt x HX.out HT.out, (by trivial)⟩
                  case measure => simp[intOf]; omega
              · have HE:Hid (Mk.z02 Mk.Y6 s i) := .inl (by omega)
                have hlti:¬ (i:Int) < s.length := by omega
                go_wp2_with fail
                go_meet
                case rel => exact⟨i, rfl, hJi, hil, HRU.out, HE, (by trivial)⟩
        case rest =>
        as_aux_lemma =>
        obtain⟨i2, rfl, hi2a, hi2b, hi2, ei2, hwx⟩ := hcut
        subst hwx
        have E2 := Mk.z5c hi2.out ei2.out
        have T2 := Mk.q07 hi2.out ei2.out
        have hnm:∃ nm, Mg.fold (c :: (s.drop J).takeWhile Mk.Y6)=nm ∧ Mg.fold ((st s).extract i1 i2).data.toList=nm ∧ nm.length ≤ s.length := by
          refine⟨_, rfl, ?_, ?_⟩
          · rw[Z4, z0b, z0b, List.drop_eq_getElem_cons hlt1, HCC.out, T2, ← HJ.out, show i2 - i1=(i2 - J) + 1 by have := HJ.out; omega, List.take_succ_cons]
          · rw[T2]
            unfold Mg.fold
            rw[List.length_map, List.length_cons, List.length_take, List.length_drop]
            have := HJ.out
            omega
        obtain⟨nm, hn1, hn2, hn3⟩ := hnm
        rw[hn1, E2] at HA
        have hfo := fun W => z8u ((st s).extract i1 i2) W (by rw[Z4, y9, List.length_take, List.length_drop, z0b]; omega)
        rw[hn2] at hfo
        have HFO:Hid (∀ W, Calls prog 35 #[.string ((st s).extract i1 i2)] W fun e w' => e=.returned (.string (st nm)) ∧ Below W.heap.size W w') := hfo
        have hle1:(i1:Int) ≤ i2 := by have := HJ.out; omega
        have hle2:(i2:Int) ≤ s.length := by omega
        have hlt9:i1 < i2 := by have := HJ.out; omega
        clear hfo hn1 hn2 E2 T2 hi2 ei2 HCC
        go_wp2_with fail
        refine(HFO.out _).mono ?_
        rintro e w2 ⟨rfl, hb2⟩
        have OW2 := Ld (z1a OW.out (Ap.of_below (S := fun _ => False) hb2) (fun _ _ h => h))
        have BL2 := Ld (BL.out.trans (hb2.mono BL.out.size))
        clear hb2 OW BL HFO
        go_upto_block 6 with fail
        have PB3 := Ld (Blk.new w2 73 #[.string (st nm), .string ⟨#[]⟩])
        have OW3 := Ld (z1a OW2.out ((Ap.refl (fun _ => False) w2).alloc (.cells #[.string (st nm), .string ⟨#[]⟩] 73)) (fun _ _ h => h))
        have BL3 := Ld (BL2.out.trans (((Below.refl w2.heap.size w2).alloc (Lr) (.cells #[.string (st nm), .string ⟨#[]⟩] 73)).mono BL2.out.size))
        have hP:w.heap.size ≤ w2.heap.size := BL2.out.size
        have HOP:Hid (u6.ownBlock ≠ some w2.heap.size) := fun e => by have := (OW2.out.lt _ e).2; omega
        clear OW2 BL2
        generalize (w2.alloc (.cells #[.string (st nm), .string ⟨#[]⟩] 73))=w3 at PB3 OW3 BL3 ⊢
        generalize w2.heap.size=P at PB3 hP HOP ⊢
        clear w2
        go_upto_block 6 with fail
        go_cut [1] (fun v wx => ∃ i:Nat, v=.int .i64 (i:Int) ∧ i2 ≤ i ∧ i ≤ s.length ∧ Hid (Mk.z1h Mk.white s i2 i) ∧ Hid (Mk.z02 Mk.white s i) ∧ w3=wx)
        case first =>
          as_aux_lemma =>
            go_wp2_with fail
            go_loopw [1] (fun v wx => ∃ i:Nat, v=.int .i64 (i:Int) ∧ i2 ≤ i ∧ i ≤ s.length ∧ Hid (Mk.z1h Mk.white s i2 i) ∧ w3=wx) (fun v _ => s.length - (intOf v).toNat)
            case atStart => exact⟨i2, by go_num, Lr, by omega, Mk.z1h.start (by omega), rfl⟩
            case round =>
              obtain⟨i, rfl, hJi, hil, HRU, hwx⟩ := hrel
              subst hwx
              by_cases hlt:i < s.length
              · obtain⟨x, hx⟩:∃ x, s[i]=x := ⟨_, rfl⟩
                have hget:∀ h, (st s)[i]'h=x := fun _ => hx
                have hlti:(i:Int) < s.length := by omega
                have hb9 := x.toNat_lt
                have hb8:(x.toNat:Int) < 256 := by omega
                have hiw := z2a x w3
                obtain⟨b, hb⟩:∃ b, Mk.white x=b := ⟨_, rfl⟩
                rw[hb] at hiw
                have HIW := Ld hiw
                have HQ := Ld (Mk.j04 x b hb)
                have HX := Ld hx
                clear hiw hb hx
                cases b with
                | true =>
                  have HT:Hid (Mk.white x=true) := HQ.out
                  clear HQ
                  go_wp2_with fail
                  refine HIW.out.mono ?_
                  rintro e w9 ⟨rfl, hw9⟩
                  subst hw9
                  go_wp2_with fail
                  go_roundw
                  case rel => exact⟨i + 1, by go_num, by omega, hlt, HRU.out.next hlt x HX.out HT.out, (by trivial)⟩
                  case measure => simp[intOf]; omega
                | false =>
                  have HT:Hid (Mk.white x=false) := HQ.out
                  clear HQ
                  go_wp2_with fail
                  refine HIW.out.mono ?_
                  rintro e w9 ⟨rfl, hw9⟩
                  subst hw9
                  go_wp2_with fail
                  go_meet
                  case rel => exact⟨i, rfl, hJi, hil, HRU.out, Mk.z02.at_ hlt x HX.out HT.out, (by trivial)⟩
              · have HE:Hid (Mk.z02 Mk.white s i) := .inl (by omega)
                have hlti:¬ (i:Int) < s.length := by omega
                go_wp2_with fail
                go_meet
                case rel => exact⟨i, rfl, hJi, hil, HRU.out, HE, (by trivial)⟩
        case rest =>
        as_aux_lemma =>
        obtain⟨i3, rfl, hi3a, hi3b, hi3, ei3, hwx⟩ := hcut
        subst hwx
        have E3 := Mk.z5c hi3.out ei3.out
        rw[E3] at HA
        clear E3 hi3 ei3
        go_upto_region 15 with fail
        go_cut [103] (fun b wx => ∃ bb:Bool, b=.bool bb ∧ Hid (Mg.isAt 61 (s.drop i3)=bb ∧ (bb=true → i3 < s.length)) ∧ w3=wx)
        case first =>
          by_cases hlt:i3 < s.length
          · obtain⟨x, hx⟩:∃ x, s[i3]=x := ⟨_, rfl⟩
            have hget:∀ h, (st s)[i3]'h=x := fun _ => hx
            have hlti:(i3:Int) < s.length := by omega
            have hb9 := x.toNat_lt
            have hd := List.drop_eq_getElem_cons hlt
            rw[hx] at hd
            rcases X9 x 61 with ⟨y, q⟩ | ⟨y, q⟩
            · have q2:((x.toNat:Int) == 61)=true := q
              have HR:Hid (Mg.isAt 61 (s.drop i3)=true) := by show _=_; rw[hd, y]; rfl
              clear y q hd hx
              go_wp2_with fail
              go_meet
              case rel => exact⟨true, rfl, ⟨HR.out, fun _ => hlt⟩, rfl⟩
            · have q2:((x.toNat:Int) == 61)=false := q
              have HR:Hid (Mg.isAt 61 (s.drop i3)=false) := by show _=_; rw[hd]; simp[Mg.isAt, y]
              clear y q hd hx
              go_wp2_with fail
              go_meet
              case rel => exact⟨false, rfl, ⟨HR.out, (fun q => by cases q)⟩, rfl⟩
          · have hlti:¬ (i3:Int) < s.length := by omega
            have HR:Hid (Mg.isAt 61 (s.drop i3)=false) := by show _=_; rw[List.drop_of_length_le (by omega)]; rfl
            go_wp2_with fail
            go_meet
            case rel => exact⟨false, rfl, ⟨HR.out, (fun q => by cases q)⟩, rfl⟩
        case rest =>
        as_aux_lemma =>
        obtain⟨bb, rfl, HBB, hwx⟩ := hcut
        subst hwx
        go_upto_if 103 with fail
        go_cut [1] (fun a wx => ∃ (i4:Nat) (v:List UInt8), a=.int .i64 (i4:Int) ∧ i3 ≤ i4 ∧ i4 ≤ s.length ∧ Hid (Mk.z1q (s.drop i3)=some (v, s.drop i4)) ∧ Hid (Blk wx P 73 #[.string (st nm), .string (st v)]) ∧ Hid (wx.ownsRow w.heap.size 73 2 u6 out.length (Z5 out)) ∧ Hid (Below w.heap.size w wx))
        case first =>
          cases bb with
          | false =>
            have HR:Hid (Mk.z1q (s.drop i3)=some ([], s.drop i3)) := by show _=_; rw[Mk.z1q, HBB.out.1]; rfl
            clear HBB
            go_wp2_with fail
            go_meet
            case rel => exact⟨i3, [], rfl, Lr, hi3b, HR, PB3, OW3, BL3⟩
          | true =>
            have hlt3 := HBB.out.2 rfl
            have HR:Hid (Mk.z1q (s.drop i3)=(Mk.valueOf (s.drop (i3 + 1))).map (fun x => ((Mk.take x.1).1, x.2))) := by show _=_; rw[Mk.z1q, HBB.out.1, if_pos rfl, List.tail_drop]
            obtain⟨J4, hJ4⟩:∃ J, J=i3 + 1 := ⟨_, rfl⟩
            have hJ4l:J4 ≤ s.length := by omega
            have hJ4i:(i3:Int) + 1=(J4:Int) := by omega
            have hJ4j:i3 < J4 := by omega
            rw[← hJ4] at HR
            have HJ4 := Ld hJ4i
            clear hJ4 hJ4i HBB
            go_upto_block 8 with fail
            go_cut [1] (fun v wx => ∃ i:Nat, v=.int .i64 (i:Int) ∧ J4 ≤ i ∧ i ≤ s.length ∧ Hid (Mk.z1h Mk.white s J4 i) ∧ Hid (Mk.z02 Mk.white s i) ∧ w3=wx)
            case first =>
              as_aux_lemma =>
                go_wp2_with fail
                go_loopw [1] (fun v wx => ∃ i:Nat, v=.int .i64 (i:Int) ∧ J4 ≤ i ∧ i ≤ s.length ∧ Hid (Mk.z1h Mk.white s J4 i) ∧ w3=wx) (fun v _ => s.length - (intOf v).toNat)
                case atStart => exact⟨J4, by rw[← HJ4.out], Lr, by omega, Mk.z1h.start (by omega), rfl⟩
                case round =>
                  obtain⟨i, rfl, hJi, hil, HRU, hwx⟩ := hrel
                  subst hwx
                  by_cases hlt:i < s.length
                  · obtain⟨x, hx⟩:∃ x, s[i]=x := ⟨_, rfl⟩
                    have hget:∀ h, (st s)[i]'h=x := fun _ => hx
                    have hlti:(i:Int) < s.length := by omega
                    have hb9 := x.toNat_lt
                    have hb8:(x.toNat:Int) < 256 := by omega
                    have hiw := z2a x w3
                    obtain⟨b, hb⟩:∃ b, Mk.white x=b := ⟨_, rfl⟩
                    rw[hb] at hiw
                    have HIW := Ld hiw
                    have HQ := Ld (Mk.j04 x b hb)
                    have HX := Ld hx
                    clear hiw hb hx
                    cases b with
                    | true =>
                      have HT:Hid (Mk.white x=true) := HQ.out
                      clear HQ
                      go_wp2_with fail
                      refine HIW.out.mono ?_
                      rintro e w9 ⟨rfl, hw9⟩
                      subst hw9
                      go_wp2_with fail
                      go_roundw
                      case rel => exact⟨i + 1, by go_num, by omega, hlt, HRU.out.next hlt x HX.out HT.out, (by trivial)⟩
                      case measure => simp[intOf]; omega
                    | false =>
                      have HT:Hid (Mk.white x=false) := HQ.out
                      clear HQ
                      go_wp2_with fail
                      refine HIW.out.mono ?_
                      rintro e w9 ⟨rfl, hw9⟩
                      subst hw9
                      go_wp2_with fail
                      go_meet
                      case rel => exact⟨i, rfl, hJi, hil, HRU.out, Mk.z02.at_ hlt x HX.out HT.out, (by trivial)⟩
                  · have HE:Hid (Mk.z02 Mk.white s i) := .inl (by omega)
                    have hlti:¬ (i:Int) < s.length := by omega
                    go_wp2_with fail
                    go_meet
                    case rel => exact⟨i, rfl, hJi, hil, HRU.out, HE, (by trivial)⟩
            case rest =>
            as_aux_lemma =>
            obtain⟨i5, rfl, hi5a, hi5b, hi5, ei5, hwx⟩ := hcut
            subst hwx
            have E5 := Ld (Mk.z5c hi5.out ei5.out)
            clear hi5 ei5
            go_upto_region 20 with fail
            go_cut [133] (fun b wx => ∃ bb:Bool, b=.bool bb ∧ Hid ((bb=true ∧ ∃ q t, i5 < s.length ∧ (q=34∨q=39) ∧ s.drop i5=q :: t)∨(bb=false ∧ Mk.z4b Mk.z2r (s.drop i5)=false)) ∧ w3=wx)
            case first =>
              by_cases hlt:i5 < s.length
              · obtain⟨x, hx⟩:∃ x, s[i5]=x := ⟨_, rfl⟩
                have hget:∀ h, (st s)[i5]'h=x := fun _ => hx
                have hlti:(i5:Int) < s.length := by omega
                have hb9 := x.toNat_lt
                have hd := List.drop_eq_getElem_cons hlt
                rw[hx] at hd
                have HD := Ld hd
                clear hd
                rcases X9 x 34 with ⟨y, q⟩ | ⟨y, q⟩
                · have q2:((x.toNat:Int) == 34)=true := q
                  have Y := Ld y
                  clear y q hx
                  go_wp2_with fail
                  go_meet
                  case rel => exact⟨true, rfl, .inl ⟨rfl, x, _, hlt, .inl Y.out, HD.out⟩, rfl⟩
                have q2:((x.toNat:Int) == 34)=false := q
                rcases X9 x 39 with ⟨y3, q3⟩ | ⟨y3, q3⟩
                · have q4:((x.toNat:Int) == 39)=true := q3
                  have Y := Ld y3
                  clear y q y3 q3 hx
                  go_wp2_with fail
                  go_meet
                  case rel => exact⟨true, rfl, .inl ⟨rfl, x, _, hlt, .inr Y.out, HD.out⟩, rfl⟩
                have q4:((x.toNat:Int) == 39)=false := q3
                have HR2:Hid (Mk.z4b Mk.z2r (s.drop i5)=false) := by show _=_; rw[HD.out]; simp[Mk.z4b, Mk.z2r, y, y3]
                clear y q y3 q3 hx
                go_wp2_with fail
                go_meet
                case rel => exact⟨false, rfl, .inr ⟨rfl, HR2.out⟩, rfl⟩
              · have hlti:¬ (i5:Int) < s.length := by omega
                have HR2:Hid (Mk.z4b Mk.z2r (s.drop i5)=false) := by show _=_; rw[List.drop_of_length_le (by omega)]; rfl
                go_wp2_with fail
                go_meet
                case rel => exact⟨false, rfl, .inr ⟨rfl, HR2.out⟩, rfl⟩
            case rest =>
            as_aux_lemma =>
            obtain⟨bb, rfl, HBB, hwx⟩ := hcut
            subst hwx
            go_upto_if 133 with fail
            go_cut [1, 9] (fun a v wx => ∃ (i6:Nat) (val:List UInt8), a=.int .i64 (i6:Int) ∧ v=.string (st val) ∧ i5 ≤ i6 ∧ i6 ≤ s.length ∧ val.length ≤ s.length ∧ Hid (Mk.valueOf (s.drop J4)=some (val, s.drop i6)) ∧ w3=wx)
            case first =>
              as_aux_lemma =>
              rcases HBB.out with ⟨hb, q, t, hlt5, hq, hd⟩ | ⟨hb, hno⟩
              · subst hb
                have hd0 := List.drop_eq_getElem_cons hlt5
                rw[hd] at hd0
                injection hd0 with hd1 hd2
                have hx1:(st s).extract i5 (i5 + 1)=st [q] := by rw[j6f s i5 hlt5, ← hd1]
                have hvq := Mk.z8c (s.drop J4) q t (by rw[E5.out]; exact hd) (Mk.quote_of q hq)
                have hnx := fun W => z7z s [q] (i5 + 1) W (by omega) hs (by simp)
                rw[← hd2] at hnx
                have hj1:(i5:Int) + 1 ≤ s.length := by omega
                cases hT:t.dropWhile (· != q) with
                | nil =>
                  rw[Mk.dw_no q t hT] at hnx
                  rw[hT] at hvq
                  rw[HR.out, hvq] at HA
                  have HA2:Hid (Mk.z1c (s.drop k)=none) := HA
                  have HNX:Hid (∀ W, Calls prog 37 #[.string (st s), .int .i64 ((i5:Int) + 1), .string (st [q])] W fun e w' => e=.returned (.int .i64 (-1)) ∧ w'=W) := hnx
                  clear HA hvq hnx hd hd1 hd2 hT HBB HR E5
                  go_wp2_with fail
                  refine(HNX.out _).mono ?_
                  rintro e w9 ⟨rfl, hw9⟩
                  subst hw9
                  go_wp2_with fail
                  go_ret2
                  exact⟨BL3.out, .inl ⟨HA2.out, rfl⟩⟩
                | cons x u =>
                  obtain⟨m, g1, g2, g3, g4⟩ := Mk.dw_at q t x u hT
                  rw[g1] at hnx
                  rw[hT] at hvq
                  simp only at hvq
                  have htl:t.length=s.length - (i5 + 1) := by rw[hd2, List.length_drop]
                  obtain⟨E, hE⟩:∃ E, E=m + (i5 + 1) := ⟨_, rfl⟩
                  have hEl:E + 1 ≤ s.length := by omega
                  have hv2:(st s).extract (i5 + 1) E=st (t.takeWhile (· != q)) := by rw[Z4, z0b, ← hd2, g3, hE, Nat.add_sub_cancel]
                  have hu:u=s.drop (E + 1) := by rw[g4, hd2, List.drop_drop]; congr 1; omega
                  have hvl:(t.takeWhile (· != q)).length ≤ s.length := by rw[g3, List.length_take]; omega
                  rw[hu] at hvq
                  have HVQ := Ld hvq
                  have HNX:Hid (∀ W, Calls prog 37 #[.string (st s), .int .i64 ((i5:Int) + 1), .string (st [q])] W fun e w' => e=.returned (.int .i64 (E:Int)) ∧ w'=W) := by rw[hE]; exact hnx
                  have hE1:(i5:Int) + 1 ≤ E := by omega
                  have hE2:(E:Int) ≤ s.length := by omega
                  have hE3:i5 ≤ E + 1 := by omega
                  generalize t.takeWhile (· != q)=val at hv2 hvl HVQ
                  have HV2 := Ld hv2
                  clear hvq hnx hd hd1 hd2 hT HBB HR E5 HA g1 g2 g3 g4 htl hE hu
                  go_wp2_with fail
                  refine(HNX.out _).mono ?_
                  rintro e w9 ⟨rfl, hw9⟩
                  subst hw9
                  clear HNX
                  go_wp2_with fail
                  go_meet
                  case rel => exact⟨E + 1, val, by go_num, rfl, hE3, hEl, hvl, HVQ, (by trivial)⟩
              · subst hb
                have hvb := Mk.z9n (s.drop J4) (by rw[E5.out]; exact hno)
                rw[E5.out] at hvb
                have HVB := Ld hvb
                clear hno HBB HR E5 HA hvb
                go_upto_block 10 with fail
                go_cut [1] (fun v wx => ∃ i:Nat, v=.int .i64 (i:Int) ∧ i5 ≤ i ∧ i ≤ s.length ∧ Hid (Mk.z1h Mk.z5k s i5 i) ∧ Hid (Mk.z02 Mk.z5k s i) ∧ w3=wx)
                case first =>
                  as_aux_lemma =>
                    go_wp2_with fail
                    go_loopw [1] (fun v wx => ∃ i:Nat, v=.int .i64 (i:Int) ∧ i5 ≤ i ∧ i ≤ s.length ∧ Hid (Mk.z1h Mk.z5k s i5 i) ∧ w3=wx) (fun v _ => s.length - (intOf v).toNat)
                    case atStart => exact⟨i5, by go_num, Lr, by omega, Mk.z1h.start (by omega), rfl⟩
                    case round =>
                      obtain⟨i, rfl, hJi, hil, HRU, hwx⟩ := hrel
                      subst hwx
                      by_cases hlt:i < s.length
                      · obtain⟨x, hx⟩:∃ x, s[i]=x := ⟨_, rfl⟩
                        have hget:∀ h, (st s)[i]'h=x := fun _ => hx
                        have hlti:(i:Int) < s.length := by omega
                        have hb9 := x.toNat_lt
                        have hb8:(x.toNat:Int) < 256 := by omega
                        have hiw := z2a x w3
                        obtain⟨b, hb⟩:∃ b, Mk.white x=b := ⟨_, rfl⟩
                        rw[hb] at hiw
                        have HIW := Ld hiw
                        have HQ := Ld (Mk.bare_of x b hb)
                        have HX := Ld hx
                        clear hiw hb hx
                        cases b with
                        | true =>
                          have HT:Hid (Mk.z5k x=false) := by show _=_; rw[HQ.out]; rfl
                          clear HQ
                          go_wp2_with fail
                          refine HIW.out.mono ?_
                          rintro e w9 ⟨rfl, hw9⟩
                          subst hw9
                          go_wp2_with fail
                          go_meet
                          case rel => exact⟨i, rfl, hJi, hil, HRU.out, Mk.z02.at_ hlt x HX.out HT.out, (by trivial)⟩
                        | false =>
                          rcases X9 x 62 with ⟨y62, p62⟩ | ⟨y62, p62⟩
                          · have q62:((x.toNat:Int) == 62)=true := p62
                            have r62:((x.toNat:Int) != 62)=false := by rw[bne, q62]; rfl
                            have HT:Hid (Mk.z5k x=false) := by show _=_; rw[HQ.out, y62]; simp
                            clear HQ p62
                            clear y62
                            go_wp2_with fail
                            refine HIW.out.mono ?_
                            rintro e w9 ⟨rfl, hw9⟩
                            subst hw9
                            go_wp2_with fail
                            go_meet
                            case rel => exact⟨i, rfl, hJi, hil, HRU.out, Mk.z02.at_ hlt x HX.out HT.out, (by trivial)⟩
                          have q62:((x.toNat:Int) == 62)=false := p62
                          have r62:((x.toNat:Int) != 62)=true := by rw[bne, q62]; rfl
                          have HT:Hid (Mk.z5k x=true) := by show _=_; rw[HQ.out]; simp[y62]
                          clear HQ y62
                          go_wp2_with fail
                          refine HIW.out.mono ?_
                          rintro e w9 ⟨rfl, hw9⟩
                          subst hw9
                          go_wp2_with fail
                          go_roundw
                          case rel => exact⟨i + 1, by go_num, by omega, hlt, HRU.out.next hlt x HX.out HT.out, (by trivial)⟩
                          case measure => simp[intOf]; omega
                      · have HE:Hid (Mk.z02 Mk.z5k s i) := .inl (by omega)
                        have hlti:¬ (i:Int) < s.length := by omega
                        go_wp2_with fail
                        go_meet
                        case rel => exact⟨i, rfl, hJi, hil, HRU.out, HE, (by trivial)⟩
                case rest =>
                as_aux_lemma =>
                obtain⟨i6, rfl, hi6a, hi6b, hi6, ei6, hwx⟩ := hcut
                subst hwx
                have T6 := Mk.q07 hi6.out ei6.out
                have D6 := Mk.z5c hi6.out ei6.out
                have hv2:(st s).extract i5 i6=st ((s.drop i5).takeWhile Mk.z5k) := by rw[Z4, z0b, T6]
                have hvl:((s.drop i5).takeWhile Mk.z5k).length ≤ s.length := by rw[T6, List.length_take, List.length_drop]; omega
                have HVQ:Hid (Mk.valueOf (s.drop J4)=some ((s.drop i5).takeWhile Mk.z5k, s.drop i6)) := by show _=_; rw[HVB.out, D6]
                generalize (s.drop i5).takeWhile Mk.z5k=val at hv2 hvl HVQ
                have hE1:(i5:Int) ≤ i6 := by omega
                have hE2:(i6:Int) ≤ s.length := by omega
                clear T6 D6 hi6 ei6 HVB
                go_wp2_with fail
                go_meet
                case rel => exact⟨i6, val, rfl, rfl, hi6a, hi6b, hvl, HVQ, (by trivial)⟩
            case rest =>
            as_aux_lemma =>
            obtain⟨i6, val, rfl, rfl, hi6a, hi6b, hvl, HVQ, hwx⟩ := hcut
            subst hwx
            have HTK := Ld (q6n val w3 (by omega))
            have HR2:Hid (Mk.z1q (s.drop i3)=some ((Mk.take val).1, s.drop i6)) := by show _=_; rw[HR.out, HVQ.out]; rfl
            obtain⟨tv, htv⟩:∃ tv, (Mk.take val).1=tv := ⟨_, rfl⟩
            obtain⟨tb, htb⟩:∃ tb, (Mk.take val).2=tb := ⟨_, rfl⟩
            rw[htv] at HR2
            rw[htv, htb] at HTK
            clear HR HVQ HBB htv htb HA
            go_wp2_with fail
            refine HTK.out.mono ?_
            rintro e w4 ⟨rfl, hb4⟩
            have PB4 := Ld (Blk.below PB3.out hb4 (Blk.lt PB3.out))
            have OW4 := Ld (ownsRow_setCell_other (z1a OW3.out (Ap.of_below (S := fun _ => False) hb4) (fun _ _ h => h)) (a := ⟨P, 1, none⟩) HOP.out (.string (st tv)))
            have BL4 := Ld ((BL3.out.trans (hb4.mono BL3.out.size)).setCell (p := ⟨P, 1, none⟩) hP (.string (st tv)))
            have c4:w4.cell? ⟨P, 1, none⟩=some (.string ⟨#[]⟩) := Blk.cell PB4.out 1
            have f4 := Blk.frozen PB4.out 1
            clear HTK hb4 PB3 OW3 BL3
            go_wp2_with fail
            go_meet
            case rel => exact⟨i6, tv, rfl, by omega, hi6b, HR2, Blk.set_ PB4.out 1 _, OW4, BL4⟩
        case rest =>
        as_aux_lemma =>
        obtain⟨i4, v, rfl, hi4a, hi4b, HR, PB4, OW4, BL4⟩ := hcut
        obtain⟨w4, hw4⟩:∃ x, x=wc := ⟨_, rfl⟩
        subst hw4
        rw[HR.out] at HA
        simp only at HA
        clear HR PB3 OW3 BL3
        obtain⟨ao, cap, hsl, hcl⟩ := (AtsV.of_own (K := fun b => b < w4.heap.size) OW4.out (fun g hg' => (OW4.out.lt g hg').2)).slice_at
        subst hsl
        have HCL := Ld hcl
        clear hcl
        have c40:w4.cell? ⟨P, 0, none⟩=some (.string (st nm)) := Blk.cell PB4.out 0
        have c41:w4.cell? ⟨P, 1, none⟩=some (.string (st v)) := Blk.cell PB4.out 1
        have hPl:P < w4.heap.size := Blk.lt PB4.out
        have hst:∀ l:List UInt8, (st l).toList=l := fun l => Lib.toList_data _
        have hol2:out.length ≤ s.length := by omega
        go_wp2_with fail
        go_loopw [11, 12] (fun tv iv wx => ∃ i:Nat, i ≤ out.length ∧ tv=.bool (Mk.z1d (out.take i) nm) ∧ iv=.int .i64 (i:Int) ∧ Hid (Below w4.heap.size w4 wx)) (fun _ iv _ => out.length - (intOf iv).toNat)
        case atStart => exact⟨0, Nat.zero_le _, rfl, rfl, Below.refl _ _⟩
        case round =>
          obtain⟨i, hio, rfl, rfl, HB⟩ := hrel
          rw[← HB.out.cell (p := ⟨P, _, none⟩) hPl] at c40 c41
          by_cases hlt:i < out.length
          · as_aux_lemma =>
            have hht := Mk.j1h out nm i hlt
            obtain⟨g, o, hao, hgl, x0, x1⟩ := HCL.out i hlt
            subst hao
            rw[← HB.out.cell (p := ⟨g, _, none⟩) hgl] at x0
            have hlti:(i:Int) < out.length := by omega
            obtain⟨an, han⟩:∃ an, out[i].n=an := ⟨_, rfl⟩
            rw[han] at hht x0
            have HHT := Ld hht
            clear hht han HCL x1
            cases hth:Mk.z1d (out.take i) nm with
            | true =>
              rw[hth] at HHT
              clear hth
              go_wp2_with fail
              go_quiet (fail)
              go_wp2_with fail
              go_roundw
              case rel => exact⟨i + 1, by omega, by rw[HHT.out]; rfl, by go_num, below_drewN HB.out _⟩
              case measure => simp[intOf]; omega
            | false =>
              rw[hth] at HHT
              clear hth
              go_wp2_with fail
              go_quiet (fail)
              go_wp2_with fail
              go_roundw
              case rel => exact⟨i + 1, by omega, by rw[HHT.out]; simp[hst], by go_num, below_drewN HB.out _⟩
              case measure => simp[intOf]; omega
          · as_aux_lemma =>
            have hie:i=out.length := by omega
            subst hie
            have hlti:¬ ((out.length:Nat):Int) < out.length := by omega
            rw[List.take_of_length_le (Lr)]
            obtain⟨w5, hw5⟩:∃ x, x=wr := ⟨_, rfl⟩
            subst hw5
            have PB5 := Ld (Blk.below PB4.out HB.out hPl)
            have OW5 := Ld (z1a OW4.out (Ap.of_below (S := fun _ => False) HB.out) (fun _ _ h => h))
            have BL5 := Ld (BL4.out.trans (HB.out.mono BL4.out.size))
            have hij:j < i4 := by omega
            have hik:k ≤ i4 := by omega
            have hiol:out.length + 1 ≤ i4 := by omega
            have HN := Ld (fun W => q6m nm W (by omega))
            clear PB4 OW4 BL4 HB HCL
            obtain⟨hh, hhh⟩:∃ b, Mk.z1d out nm=b := ⟨_, rfl⟩
            obtain⟨hn, hhn⟩:∃ b, Mk.isName nm=b := ⟨_, rfl⟩
            rw[hhn] at HN
            unfold Mk.z8r at HA
            rw[hhn, hhh] at HA
            rw[hhh]
            clear hhn hhh
            cases hn with
            | false =>
              rw[if_neg (by simp)] at HA
              go_wp2_with fail
              refine(HN.out _).mono ?_
              rintro e w6 ⟨rfl, hw6⟩
              subst w6
              go_wp2_with fail
              go_roundw
              case rel => exact⟨i4, out, hik, hi4b, by omega, rfl, HA.out, OW5.out, BL5.out⟩
              case measure => simp[intOf]; omega
            | true =>
              cases hh with
              | true =>
                rw[if_neg (by simp)] at HA
                go_wp2_with fail
                refine(HN.out _).mono ?_
                rintro e w6 ⟨rfl, hw6⟩
                subst w6
                go_wp2_with fail
                go_roundw
                case rel => exact⟨i4, out, hik, hi4b, by omega, rfl, HA.out, OW5.out, BL5.out⟩
                case measure => simp[intOf]; omega
              | false =>
                rw[if_pos (by simp)] at HA
                go_wp2_with fail
                refine(HN.out _).mono ?_
                rintro e w6 ⟨rfl, hw6⟩
                subst w6
                generalize Value.slice ao out.length cap=uv at OW5 HOP ⊢
                obtain⟨i0, hi, hz0, hz1, hz2⟩ := info_parts Tryz.infoAttr
                have ow10 := z1a OW5.out ((Ap.refl (fun _ => False) w5).alloc (.cells #[.string (st nm), .string (st v)] 73)) (fun _ _ h => h)
                have hlen10:out.length ≤ 1048576 := by omega
                have hsz5 := BL5.out.size
                go_wp2_with (at_builtin; refine wpList_append_own _ rfl _ _ 36 rfl w.heap.size 73 i0 (.agg #[.string ⟨#[]⟩, .string ⟨#[]⟩]) 2 32 underlying36 hi hz0 hz1 hz2 rfl (by decide) _ _ _ rfl ow10 ⟨w5.heap.size, 0, none⟩ 1 1 [.string (st nm), .string (st v)] rfl rfl (Y9 _ _ _) (by intro u hu; simp at hu; rcases hu with rfl | rfl <;> rfl) (by unfold maxLen; omega) (by omega) (by simp; omega) ?_)
                intro v' w11 hown' hgrow _
                have hown2:w11.ownsRow w.heap.size 73 2 v' (out ++ [(⟨nm, v⟩:Mk.At)]).length (Z5 (out ++ [⟨nm, v⟩])) := by
                  rw[List.length_append, show Z5 (out ++ [(⟨nm, v⟩:Mk.At)])=Z5 out ++ [.string (st nm), .string (st v)] by simp[Z5]]
                  exact hown'
                have OW11 := Ld hown2
                have AP11 := Ld ((((Ap.of_below (S := fun b => w.heap.size ≤ b) BL5.out).alloc (.cells #[.string (st nm), .string (st v)] 73)).grown hgrow (fun k hk e => absurd hk (by have := (OW5.out.lt k e).1; omega))).below (Lr) (fun k q1 q2 => by have q2:w.heap.size ≤ k := q2; omega))
                clear hown' hown2 hgrow OW5 ow10 PB5
                go_wp2_with fail
                go_roundw
                case rel => exact⟨i4, out ++ [(⟨nm, v⟩:Mk.At)], hik, hi4b, by rw[List.length_append, List.length_singleton]; omega, rfl, HA, OW11, AP11⟩
                case measure => simp[intOf]; omega
    · have hne1:((i1:Int) == (s.length:Int))=true := by rw[beq_iff_eq]; omega
      rw[show s.drop i1=[] from List.drop_of_length_le (by omega)] at HA
      simp only at HA
      go_wp2_with fail
      go_ret2
      exact⟨BL.out, .inl ⟨HA.out, rfl⟩⟩
structure TkO (w:World) (B X O:Nat) (tx:List UInt8) (ts:List Mk.Tok) (ov:Value) (xs:List Value):Prop where
 hX:B≤X
 hO:B≤O
 ne:O ≠ X
 bx:Blk w X 9 #[.string (st tx)]
 bo:Blk w O 27 #[ov]
 own:w.ownsRow B 52 4 ov ts.length xs
 cells:z0j w (KT w B) ts xs
 nx:ov.ownBlock ≠ some X
 no:ov.ownBlock ≠ some O
section
variable {w w' : World} {B X O : Nat} {tx : List UInt8} {ts : List Mk.Tok} {ov : Value} {xs : List Value}
theorem TkO.frame (h:TkO w B X O tx ts ov xs) (hb:∀ b,b < w.heap.size→b=X∨b=O∨ov.ownBlock=some b∨KT w B b→w'.heap[b]? = w.heap[b]?):TkO w' B X O tx ts ov xs:=by
 refine⟨h.hX,h.hO,h.ne,(hb X (Blk.lt h.bx) (.inl rfl)).trans h.bx,(hb O (Blk.lt h.bo) (.inr (.inl rfl))).trans h.bo,⟨h.own.1,h.own.2.imp id ?_⟩,h.cells.frame fun b hk=>hk.keep (hb b hk.lt (.inr (.inr (.inr hk)))),h.nx,h.no⟩;rintro ⟨g,cap,cur,h1,h2,h3,h4⟩;have e:ov.ownBlock=some g:=by rw[h1];rfl
 exact⟨g,cap,cur,h1,h2,(hb g (h.own.lt g e).2 (.inr (.inr (.inl e)))).trans h3,h4⟩
theorem TkO.below (h:TkO w B X O tx ts ov xs) (hb:Below w.heap.size w w'):TkO w' B X O tx ts ov xs:=h.frame fun b q _=>hb.block b q
theorem TkO.blt (h:TkO w B X O tx ts ov xs):B≤w.heap.size:=Nat.le_trans h.hX (Nat.le_of_lt (Blk.lt h.bx))
theorem TkO.kx (h:TkO w B X O tx ts ov xs) {b:Nat} (hk:KT w B b):b ≠ X:=hk.ne ⟨_,h.bx⟩ (by decide)
theorem TkO.ko (h:TkO w B X O tx ts ov xs) {b:Nat} (hk:KT w B b):b ≠ O:=hk.ne ⟨_,h.bo⟩ (by decide)
theorem TkO.kv (h:TkO w B X O tx ts ov xs) {b:Nat} (hk:KT w B b):ov.ownBlock ≠ some b:=by
 intro e
 rcases h.own.2 with ⟨hv,_⟩ | ⟨g,cap,cur,hv,_,hh,_⟩
 ·rw[hv] at e;cases e
 ·rw[hv] at e
  injection e with e;exact hk.ne ⟨_,hh⟩ (by decide) e.symm
theorem TkO.setText (h:TkO w B X O tx ts ov xs) (ty:List UInt8):TkO (w.setCell ⟨X,0,none⟩ (.string (st ty))) B X O ty ts ov xs :=
 ⟨h.hX,h.hO,h.ne,Blk.set_ h.bx 0 _,Blk.far h.bo (p:=⟨X,0,none⟩) h.ne _,ownsRow_setCell_other h.own (a:=⟨X,0,none⟩) h.nx _,h.cells.frame fun b hk=>hk.keep (Below.heap_setCell w ⟨X,0,none⟩ _ b (h.kx hk)),h.nx,h.no⟩
def TkS (X O:Nat) (ov:Value) (b:Nat):Prop:=b=X∨b=O∨ov.ownBlock=some b
theorem TkO.push (h:TkO w B X O tx ts ov xs) {t:Mk.Tok} {va:Value} (ha:AtsV w (KT w B) va t.ats) {w1 w2:World} {v':Value} (h1:Below w.heap.size w w1) (hown:w2.ownsRow B 52 4 v' (ts.length + 1) (xs++q09 t va)) (hg:w1.grownBy w2 ov.ownBlock) (hf:v'.ownBlock=ov.ownBlock∨v'.ownBlock=some w1.heap.size) :
  TkO (w2.setCell ⟨O,0,none⟩ v') B X O tx (ts++[t]) v' (xs++q09 t va)∧Below B w (w2.setCell ⟨O,0,none⟩ v')∧Ap (TkS X O ov) w (w2.setCell ⟨O,0,none⟩ v'):=by
 have hXl:=Blk.lt h.bx;have hOl:=Blk.lt h.bo;have hnx:v'.ownBlock ≠ some X:=by
  rcases hf with e | e
  ·rw[e];exact h.nx
  ·rw[e];intro q;injection q with q;have:=h1.size;omega
 have hno:v'.ownBlock ≠ some O:=by
  rcases hf with e | e
  ·rw[e];exact h.no
  ·rw[e];intro q;injection q with q;have:=h1.size;omega
 have hblk:∀ b,b < w.heap.size→ov.ownBlock ≠ some b→w2.heap[b]? = w.heap[b]?:=fun b hb hn=>(hg.block b (Nat.lt_of_lt_of_le hb h1.size) (fun e=>hn e.symm)).trans (h1.block b hb)
 have hkeep:∀ b,KT w B b→KT (w2.setCell ⟨O,0,none⟩ v') B b∧(w2.setCell ⟨O,0,none⟩ v').heap[b]? = w.heap[b]?:=fun b hb =>
  hb.keep ((Below.heap_setCell w2 ⟨O,0,none⟩ v' b (h.ko hb)).trans (hblk b hb.lt (h.kv hb)))
 refine⟨⟨h.hX,h.hO,h.ne,?_,?_,?_,?_,hnx,hno⟩,?_,?_⟩
 ·exact Blk.far ((hblk X hXl h.nx).trans h.bx) (p:=⟨O,0,none⟩) (fun e=>h.ne e.symm) _
 ·have hb2:Blk w2 O 27 #[ov]:=(hblk O hOl h.no).trans h.bo
  exact Blk.set_ hb2 0 v'
 ·rw[List.length_append]
  exact ownsRow_setCell_other hown (a:=⟨O,0,none⟩) hno v'
 ·exact(h.cells.frame hkeep).snoc (ha.frame hkeep)
 ·exact((h1.mono h.blt).grown hg (Nat.le_trans h.blt h1.size) (fun k hk=>(h.own.lt k hk).1)).setCell (p:=⟨O,0,none⟩) h.hO v'
 ·exact((Ap.of_below h1).grown hg (fun k _ e=>.inr (.inr e))).setCell (p:=⟨O,0,none⟩) (.inr (.inl rfl)) v'
end
theorem TkO.toks {w:World} {B X O:Nat} {tx:List UInt8} {ts:List Mk.Tok} {ov:Value} {xs:List Value} (h:TkO w B X O tx ts ov xs) (hl:ts.length≤maxLen):z1b w (fun b=>B≤b∧b < w.heap.size) ov ts:=by
 obtain⟨ao,cap,h1,h2,h3⟩:=z1v.of_own (K:=fun b=>B≤b∧b < w.heap.size) h.own (fun g hg=>h.own.lt g hg);exact⟨ao,cap,xs,h1,h2,h.cells.frame (fun b hb=>⟨⟨hb.1,hb.lt⟩,rfl⟩),h3.2⟩
theorem q9n {w:World} {B X O:Nat} {tx:List UInt8} {ts:List Mk.Tok} {ov:Value} {xs:List Value} (h:TkO w B X O tx ts ov xs) (htx:tx.length≤1048576) (hts:ts.length≤1048576) :
  Calls prog 30 #[.pointer (some ⟨X,0,none⟩),.pointer (some ⟨O,0,none⟩)] w fun e w'=>e=.returned (.tuple #[])∧(∃ ov' xs',TkO w' B X O [] (Mk.flush tx ts) ov' xs'∧(ov'.ownBlock=ov.ownBlock∨∃ g,ov'.ownBlock=some g∧w.heap.size≤g))∧Below B w w'∧Ap (TkS X O ov) w w':=by
 have cX:w.cell? ⟨X,0,none⟩=some (.string (st tx)):=Blk.cell h.bx 0;have HT:=Ld (q6n tx w htx);have H:=Ld h;clear h;go_enter func30,ntmps30;go_wp2_with fail;refine HT.out.mono ?_;rintro e w1 ⟨rfl,hb1⟩;have H1:=Ld (H.out.below hb1);have L1:=Ld (hb1.mono H.out.blt);have A1:=Ld (Ap.of_below (S:=TkS X O ov) hb1);have hsz1:=hb1.size;have HF:Hid (Mk.flush tx ts=if (Mk.take tx).1=[] then ts else ts++[⟨1,[],[],(Mk.take tx).1⟩]):=by show _=_;rfl
 clear HT hb1 H cX;generalize (Mk.take tx).2=bb;generalize (Mk.take tx).1=t at HF ⊢;have hst:(st t).toList=t:=Lib.toList_data _;have fX:=Blk.frozen H1.out.bx 0;have fO:=Blk.frozen H1.out.bo 0;have cX:w1.cell? ⟨X,0,none⟩=some (.string (st tx)):=Blk.cell H1.out.bx 0;have cO:w1.cell? ⟨O,0,none⟩=some ov:=Blk.cell H1.out.bo 0
 by_cases h0:t=[]
 ·subst h0
  rw[if_pos rfl] at HF;have hst:(st []).toList=[]:=Lib.toList_data _;go_wp2_with fail;go_end0;exact⟨rfl,⟨_,_,by rw[HF.out];exact H1.out.setText [],.inl rfl⟩,L1.out.setCell (p:=⟨X,0,none⟩) H1.out.hX _,A1.out.setCell (p:=⟨X,0,none⟩) (.inl rfl) _⟩
 ·rw[if_neg h0] at HF
  have he:t.isEmpty=false:=by
   cases t with
   | nil=>exact absurd rfl h0
   | cons _ _=>rfl
  obtain⟨i0,hi,hz0,hz1,hz2⟩:=info_parts Tryz.infoTok;have hbl:=H1.out.blt;have ow10:=X8 H1.out.own ((Ap.refl (fun _=>False) w1).alloc (.cells #[.int .i64 1,.string ⟨#[]⟩,.slice none 0 0,.string (st t)] 52)) (fun _ _ q=>q);have hb11:Below w1.heap.size w1 (w1.alloc (.cells #[.int .i64 1,.string ⟨#[]⟩,.slice none 0 0,.string (st t)] 52)):=(Below.refl _ w1).alloc (Lr) _;go_wp2_with (at_builtin;refine Q9 rfl _ _ 27 rfl B 52 i0 (.agg #[.int .i64 0,.string ⟨#[]⟩,.slice none 0 0,.string ⟨#[]⟩]) 4 64 underlying27 hi hz0 hz1 hz2 rfl (by decide) _ _ _ rfl ow10 ⟨w1.heap.size,0,none⟩ 1 1 [.int .i64 1,.string ⟨#[]⟩,.slice none 0 0,.string (st t)] rfl rfl (Y9 _ _ _) (by intro u hu;simp at hu;rcases hu with rfl | rfl | rfl | rfl <;> rfl) (by decide) (by unfold maxLen;omega) (by omega) (by simp;omega) ?_);intro v' w2 hown' hgrow hfresh;obtain⟨r1,r2,r3⟩:=H1.out.push (t:=⟨1,[],[],t⟩) (va:=.slice none 0 0) (AtsV.nil _ _) hb11 hown' hgrow (hfresh.imp id (fun e=>by rw[e];simp));have R1:=Ld r1;have R2:=Ld r2;have R3:=Ld r3;have HFR:Hid (v'.ownBlock=ov.ownBlock∨∃ g,v'.ownBlock=some g∧w.heap.size≤g):=hfresh.imp id (fun e=>⟨_,e,by have:=hb11.size;omega⟩);have fO':w2.frozen? ⟨O,0,none⟩=false:=by
   have:=Blk.frozen r1.bo 0
   rwa [World.frozen?_setCell] at this
  have cO':w2.cell? ⟨O,0,none⟩=some ov:=by
   have hO:Blk w2 O 27 #[ov]:=(hgrow.block O (Nat.lt_of_lt_of_le (Blk.lt H1.out.bo) hb11.size) (fun e=>H1.out.no e.symm)).trans ((hb11.block O (Blk.lt H1.out.bo)).trans H1.out.bo);exact Blk.cell hO 0
  have fX':(w2.setCell ⟨O,0,none⟩ v').frozen? ⟨X,0,none⟩=false:=Blk.frozen r1.bx 0;have cX':(w2.setCell ⟨O,0,none⟩ v').cell? ⟨X,0,none⟩=some (.string (st tx)):=Blk.cell r1.bx 0;obtain⟨ao,cap,rfl⟩:=Y1 hown';clear hown' hgrow hfresh r1 r2 r3 ow10 hb11 fX fO cX cO;go_wp2_with fail;go_end0;exact⟨rfl,⟨_,_,by rw[HF.out];exact R1.out.setText [],HFR.out⟩,(L1.out.trans R2.out).setCell (p:=⟨X,0,none⟩) H1.out.hX _,(A1.out.trans R3.out).setCell (p:=⟨X,0,none⟩) (.inl rfl) _⟩
end Go.Proofs.YtagleefekmdldaaGreatDoor
namespace Mk
theorem q4g (s:Bs) (j:Nat) (h:j < s.length) (x:UInt8) (hx:s[j]=x):z1y (s.drop j)=Mg.isLet x:=by rw[List.drop_eq_getElem_cons h,hx];rfl
theorem q06 (s:Bs) (j:Nat) (h:¬ j < s.length):z1y (s.drop j)=false:=by rw[List.drop_of_length_le (by omega)];rfl
section
variable (s : Bs) (k : Nat)
theorem j1i (hA:z1y (s.drop (k + 1))=true):hereAt (s.drop k)=z2i (s.drop (k + 1)):=by
 unfold hereAt;rw[List.tail_drop,if_pos hA]
theorem q7s (hA:z1y (s.drop (k + 1))=false) (hB:(Mg.pre [60,47] (s.drop k) && z1y (s.drop (k + 2)))=true):hereAt (s.drop k)=z0y (s.drop (k + 2)):=by
 unfold hereAt;rw[List.tail_drop,if_neg (by rw[hA];decide),List.drop_drop,if_pos hB]
theorem here_c (hA:z1y (s.drop (k + 1))=false) (hB:(Mg.pre [60,47] (s.drop k) && z1y (s.drop (k + 2)))=false) (hC:Mg.pre [60,33,45,45] (s.drop k)=true):hereAt (s.drop k)=z0l [45,45,62] (s.drop (k + 2)):=by
 unfold hereAt;rw[List.tail_drop,if_neg (by rw[hA];decide),List.drop_drop,if_neg (by rw[hB];decide),if_pos hC]
theorem here_d (hA:z1y (s.drop (k + 1))=false) (hB:(Mg.pre [60,47] (s.drop k) && z1y (s.drop (k + 2)))=false) (hC:Mg.pre [60,33,45,45] (s.drop k)=false) (hD:(Mg.pre [60,33] (s.drop k) || Mg.pre [60,63] (s.drop k) || Mg.pre [60,47] (s.drop k))=true):hereAt (s.drop k)=z0l [62] (s.drop k):=by
 unfold hereAt;rw[List.tail_drop,if_neg (by rw[hA];decide),List.drop_drop,if_neg (by rw[hB];decide),if_neg (by rw[hC];decide),if_pos hD]
theorem here_t (hA:z1y (s.drop (k + 1))=false) (hB:(Mg.pre [60,47] (s.drop k) && z1y (s.drop (k + 2)))=false) (hC:Mg.pre [60,33,45,45] (s.drop k)=false) (hD:(Mg.pre [60,33] (s.drop k) || Mg.pre [60,63] (s.drop k) || Mg.pre [60,47] (s.drop k))=false):hereAt (s.drop k)=.text:=by
 unfold hereAt;rw[List.tail_drop,if_neg (by rw[hA];decide),List.drop_drop,if_neg (by rw[hB];decide),if_neg (by rw[hC];decide),if_neg (by rw[hD];decide)]
end
theorem open_at {s:Bs} {J e:Nat} (h:z1h Q7 s J e) (he:z02 Q7 s e):z2i (s.drop J)=match z1c (s.drop e) with | none=>.stop | some (l,rest)=>if isName (Mg.fold ((s.drop J).take (e - J))) then .tag ⟨2,Mg.fold ((s.drop J).take (e - J)),l,[]⟩ rest else .gone rest:=by
 unfold z2i;rw[z5c h he,q07 h he];rfl
theorem close_at {s:Bs} {J e:Nat} (h:z1h Q7 s J e) (he:z02 Q7 s e):z0y (s.drop J)=match nxt [62] (s.drop e) with | none=>.stop | some i=>if isName (Mg.fold ((s.drop J).take (e - J))) then .tag ⟨3,Mg.fold ((s.drop J).take (e - J)),[],[]⟩ (s.drop (i + e + 1)) else .gone (s.drop (i + e + 1)):=by
 unfold z0y;rw[z5c h he,q07 h he,z8h]
 cases nxt [62] (s.drop e) with
 | none=>rfl
 | some i =>
  have eq:(s.drop e).drop (i + 1)=s.drop (i + e + 1):=by rw[List.drop_drop];congr 1;omega
  simp only [Option.map_some,List.length_singleton,eq]
theorem j5r (p:Bs) (s:Bs) (j:Nat):z0l p (s.drop j)=match nxt p (s.drop j) with | none=>.stop | some i=>.gone (s.drop (i + j + p.length)):=by
 unfold z0l;rw[z8h]
 cases nxt p (s.drop j) with
 | none=>rfl
 | some i =>
  have e:(s.drop j).drop (i + p.length)=s.drop (i + j + p.length):=by rw[List.drop_drop];congr 1;omega
  simp only [Option.map_some,e]
theorem j5m (p:Bs) (s:Bs) (j i:Nat) (h:nxt p (s.drop j)=some i) (hj:j≤s.length):i + j + p.length≤s.length:=by
 have:=nxt_le p _ i h;rw[List.length_drop] at this;omega
def Told (s:Bs) (k:Nat) (tov kd:Int) (nm:Bs) (ats:List At):Prop :=
 (tov = -2∧hereAt (s.drop k)=.text)∨(tov = -1∧hereAt (s.drop k)=.stop) ∨
 ∃ j:Nat,tov=(j:Int)∧k < j∧j≤s.length∧nm.length≤s.length∧((kd ≠ 0∧isName nm=true∧hereAt (s.drop k)=.tag ⟨kd,nm,ats,[]⟩ (s.drop j))∨((kd=0∨isName nm=false)∧hereAt (s.drop k)=.gone (s.drop j)))
end Mk
