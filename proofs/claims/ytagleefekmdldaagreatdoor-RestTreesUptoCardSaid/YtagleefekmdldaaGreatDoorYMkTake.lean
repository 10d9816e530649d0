/- Contracts of the program's sign and Taken: a text with signs for what tells them. Condition: a text of at most 1048576 bytes. -/
import Derived.Test.YtagleefekmdldaaGreatDoorYMkTok2
import Derived.Test.YtagleefekmdldaaGreatDoorYMkBuf
import Derived.Test.YtagleefekmdldaaGreatDoorProg
import Derived.Test.YtagleefekmdldaaGreatDoorYUrlPlain
import Derived.Test.YtagleefekmdldaaGreatDoorYShelf
import Derived.Test.YtagleefekmdldaaGreatDoorYKit
import Derived.WalkKit
import Derived.WalkSpells
import Derived.WalkLawsBesides
import Derived.Lib.Hide
import Derived.Deep.QuietTactic
import Derived.BigQuiet
set_option linter.unusedVariables false
set_option linter.unusedSimpArgs false
set_option maxHeartbeats 2000000
set_option maxRecDepth 100000
namespace Go.Proofs.YtagleefekmdldaaGreatDoor
open Go.Proofs.Tryz Go.RowKit

def signV (x:List UInt8 × Nat × Bool):Value:=.tuple #[.string (st x.1),.int .i64 x.2.1,.bool x.2.2]
theorem utf8_is (p:Nat) (h:Mk.scalar p=true):Utf8.encode (p:Int)=st (Mk.utf8 p):=by
 have hs:(0 < p∧p≤1114111)∧(p < 55296∨57343 < p):=by
  rw[z5w] at h;rw[Bool.and_eq_true,Bool.and_eq_true,Bool.or_eq_true] at h;obtain⟨⟨h1,h2⟩,h3⟩:=h;exact⟨⟨of_decide_eq_true h1,of_decide_eq_true h2⟩,h3.imp of_decide_eq_true of_decide_eq_true⟩
 have hv:Utf8.valid (p:Int)=true:=by
  unfold Utf8.valid;rw[Bool.or_eq_true,Bool.and_eq_true,Bool.and_eq_true]
  rcases hs with ⟨⟨h1,h2⟩,h3 | h3⟩
  ·exact .inl ⟨decide_eq_true (by omega),decide_eq_true (by omega)⟩
  ·exact .inr ⟨decide_eq_true (by omega),decide_eq_true (by omega)⟩
 unfold Utf8.encode Mk.utf8;simp only [hv,if_true,Int.toNat_natCast]
 split
 ·rfl
 split
 ·rfl
 split
 ·rfl
 ·rfl

theorem esc_sign (s:ByteArray) (w:World) (hs:s.size≤2097152) (hg:Gl w) :
  Calls prog 120 #[.string s] w fun e w'=>e=.returned (signV (Mk.sign s.data.toList))∧Below w.heap.size w w':=by
 have hna:=fun W=>j4r s W
 have hnu:=fun W hG=>q5q s W hs hG
 have hsg:Mk.sign s.data.toList=(match Mk.named s.data.toList with | some (c,n)=>([c],n,true) | none=>match Mk.numbered s.data.toList with | none=>([38],0,false) | some (p,n)=>if Mk.scalar p then (Mk.utf8 p,n,true) else ([239,191,189],n,false)):=rfl;obtain⟨a,ha⟩:∃ a,Mk.named s.data.toList=a:=⟨_,rfl⟩;obtain⟨b,hb⟩:∃ b,Mk.numbered s.data.toList=b:=⟨_,rfl⟩;rw[ha] at hna hsg;rw[hb] at hnu hsg;have HA:=Ld hna;have HU:=Ld hnu;have hgt:∀ c n,a=some (c,n)→0 < n:=by
  intro c n e;rw[← ha] at e;unfold Mk.named at e
  split at e
  ·injection e with e;injection e with e1 e2;omega
  split at e
  ·injection e with e;injection e with e1 e2;omega
  split at e
  ·injection e with e;injection e with e1 e2;omega
  split at e
  ·injection e with e;injection e with e1 e2;omega
  split at e
  ·injection e with e;injection e with e1 e2;omega
  ·cases e
 have hgn:∀ p n,b=some (p,n)→0 < n:=by
  intro p n e;have hat:∀ x y z,Mk.numAt x y z s.data.toList=some (p,n)→0 < n:=by
   intro x y z h;unfold Mk.numAt at h;simp only at h
   split at h
   ·cases h
   split at h
   ·injection h with h;injection h with h1 h2;omega
   ·cases h
  rw[← hb] at e;unfold Mk.numbered at e
  split at e
  ·exact hat _ _ _ e
  split at e
  ·exact hat _ _ _ e
  ·cases e
 clear hna hnu ha hb;have HG:=Ld hg;clear hg
 cases a with
 | some x =>
  obtain⟨c,n⟩:=x;have h0:(0:Int) < n:=by have:=hgt c n rfl;omega
  have HS:=Ld hsg;clear hsg hgt hgn HU;go_enter func120,ntmps120;go_wp2_with fail;refine(HA.out _).mono ?_;rintro e w1 ⟨rfl,hb1⟩;unfold q5y;go_wp2_with fail
  go_ret3
  exact⟨by rw[HS.out];rfl,hb1⟩
 | none =>
  clear hgt
  cases b with
  | none =>
   have HS:=Ld hsg;clear hsg hgn;go_enter func120,ntmps120;go_wp2_with fail;refine(HA.out _).mono ?_;rintro e w1 ⟨rfl,hb1⟩;unfold q5y;go_wp2_with fail;refine(HU.out _ (HG.out.below hb1 HG.out.lt)).mono ?_;rintro e w2 ⟨rfl,hb2⟩;unfold numV;go_wp2_with fail
   go_ret3
   exact⟨by rw[HS.out];rfl,hb1.trans (hb2.mono hb1.size)⟩
  | some x =>
   obtain⟨p,n⟩:=x;have h0:(0:Int) < n:=by have:=hgn p n rfl;omega
   have h1:((n:Int) == 0)=false:=by rw[beq_eq_false_iff_ne];omega
   clear hgn
   cases hsc:Mk.scalar p with
   | true =>
    have HE:=Ld (utf8_is p hsc);have hw:IntKind.i32.wrap (p:Int)=p:=by
     have h:=hsc;rw[z5w,Bool.and_eq_true,Bool.and_eq_true] at h;have:=of_decide_eq_true h.1.2;rw[IntKind.wrap_i32];omega
    simp only [hsc,if_true] at hsg;have hq:=q2y p;rw[hsc] at hq;have HQ:=Ld hq;have HS:=Ld hsg;clear hsg hsc hq;go_enter func120,ntmps120;go_wp2_with fail;refine(HA.out _).mono ?_;rintro e w1 ⟨rfl,hb1⟩;unfold q5y;go_wp2_with fail;refine(HU.out _ (HG.out.below hb1 HG.out.lt)).mono ?_;rintro e w2 ⟨rfl,hb2⟩;unfold numV;go_wp2_with fail;refine(HQ.out _).mono ?_;rintro e w3 ⟨rfl,rfl⟩;go_wp2_with fail;rw[HE.out]
    go_ret3
    exact⟨by rw[HS.out];rfl,hb1.trans (hb2.mono hb1.size)⟩
   | false =>
    simp only [hsc,if_false,Bool.false_eq_true] at hsg;have hq:=q2y p;rw[hsc] at hq;have HQ:=Ld hq;have HS:=Ld hsg;clear hsg hsc hq;go_enter func120,ntmps120;go_wp2_with fail;refine(HA.out _).mono ?_;rintro e w1 ⟨rfl,hb1⟩;unfold q5y;go_wp2_with fail;refine(HU.out _ (HG.out.below hb1 HG.out.lt)).mono ?_;rintro e w2 ⟨rfl,hb2⟩;unfold numV;go_wp2_with fail;refine(HQ.out _).mono ?_;rintro e w3 ⟨rfl,rfl⟩;go_wp2_with fail
    go_ret3
    exact⟨by rw[HS.out];rfl,hb1.trans (hb2.mono hb1.size)⟩


theorem z2x (s:ByteArray) (w:World) :
  Calls prog 181 #[.string s] w fun e w'=>e=.returned (.bool (decide (3000 < s.size)))∧w=w':=by
 go_enter func181,ntmps181;go_wp2;go_ret;refine⟨Z8 ?_,rfl⟩;simp;omega

theorem q21 (c:UInt8) (w:World) :
  Calls prog 108 #[.int .u8 c.toNat] w fun e w'=>e=.returned (.int .u8 (Mg.low c).toNat)∧w=w':=by
 have hl:=Mg.q7x c;go_enter func108,ntmps108;go_wp2
 all_goals (go_ret;refine⟨z06 ?_,rfl⟩;split at hl <;> omega)

theorem Tryz.infoB:(prog.info? 5).map (fun i=>(i.zero,i.size,i.bytes))=some (some (.int .u8 0),1,1):=by kernel_rfl

end Go.Proofs.YtagleefekmdldaaGreatDoor
