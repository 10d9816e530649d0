/-
  No cell of these rows narrows 'for every input' (looked for: loops, veiled, ifaces, maps, wideKeys, modest, calm, conditions, laid).
  DERIVED. THE GIVEN ROWS OF THIS SEAT. 4 by the template 'for every input the law returns true; each argument reads behind the call as it read before'; 0 by the template 'total and deterministic' (their statements: YtpagegjhihijcaaTotals.lean).
  GIVEN WITH THE SEED: the statements are not yours to turn. If you find one false, say at which input.
  Laid BY PROGRAM, IN A SANDBOX (cutbox-rows.mjs): the forced cells as the released guide's own fill.sh prints them over the translation 914ce6429b994cb0… (all of the seat's roots in one cut). By AI agents, Wed Nov 11 2026. No macro, syntax, notation, axiom, sorry.
-/
import Derived.Test.YtpagegjhihijcaaChecked
import GoSem.Claim
import GoSem.ClaimJoined
import GoSem.ClaimMapViews
import Derived.JoinedTies
import Derived.KernelRfl
namespace Go.Proofs.Ytpagegjhihijcaa
/- THE CELL 'sum', in the pinned program and in every row, IS THE sha256 OF THE DUMP (.gsa) THAT YtpagegjhihijcaaProg.lean LOADS. Nothing in Lean hashes anything: it is a label: what it is worth is what the hold of that sum in a sandbox is worth. -/
noncomputable def Try.pinned : Pinned := { name := "ytpagegjhihijcaa", sum := "914ce6429b994cb044e707e9a34cd9e0addf4f224813c0de8c35c1b86e5ea200", checked := Try.checked }
namespace Rows
def none {H : Type} : Left H := { results := [], args := [] }

/-- 'marginalialaw.UrlTells': WHATEVER THE INPUT: true; the input reads as it did. -/
def urlTellsSpec : ChangeSpec := { name := "urlTells", fn := fun _ => fun
  | [d1, d2, d3] => { results := [.lit (.bool true)], args := [d1, d2, d3] }
  | _ => none }
def urlTellsRow : OpenClaim := { program := "ytpagegjhihijcaa", sum := "914ce6429b994cb044e707e9a34cd9e0addf4f224813c0de8c35c1b86e5ea200", func := "marginalia/marginalialaw.UrlTells", spec := "urlTells", inPlace := ["internal/bytealg.IndexByteString", "internal/bytealg.IndexString", "internal/abi.NoEscape", "internal/bytealg.MakeNoZero"], unfollowed := true, recurses := true, named := ["internal/bytealg.MaxLen"], apart := false }
def UrlTellsSaid : Prop := urlTellsRow.holds Try.pinned (OpenSpec.ofChange urlTellsSpec)

/-- ITS FALSE NEIGHBOUR: 'it returns false'. Refute it at one input. -/
def urlTellsWrong : ChangeSpec := { name := "urlTells", fn := fun _ => fun
  | [d1, d2, d3] => { results := [.lit (.bool false)], args := [d1, d2, d3] }
  | _ => none }
def UrlTellsWrongFalsely : Prop := urlTellsRow.holds Try.pinned (OpenSpec.ofChange urlTellsWrong)

/-- 'marginalialaw.UrlBack': WHATEVER THE INPUT: true; the input reads as it did. -/
def urlBackSpec : ChangeSpec := { name := "urlBack", fn := fun _ => fun
  | [d1, d2] => { results := [.lit (.bool true)], args := [d1, d2] }
  | _ => none }
def urlBackRow : OpenClaim := { program := "ytpagegjhihijcaa", sum := "914ce6429b994cb044e707e9a34cd9e0addf4f224813c0de8c35c1b86e5ea200", func := "marginalia/marginalialaw.UrlBack", spec := "urlBack", inPlace := ["internal/bytealg.IndexByteString", "internal/bytealg.IndexString", "internal/abi.NoEscape", "internal/bytealg.MakeNoZero"], unfollowed := true, recurses := true, named := ["internal/bytealg.MaxLen"], apart := false }
def UrlBackSaid : Prop := urlBackRow.holds Try.pinned (OpenSpec.ofChange urlBackSpec)

/-- ITS FALSE NEIGHBOUR: 'it returns false'. Refute it at one input. -/
def urlBackWrong : ChangeSpec := { name := "urlBack", fn := fun _ => fun
  | [d1, d2] => { results := [.lit (.bool false)], args := [d1, d2] }
  | _ => none }
def UrlBackWrongFalsely : Prop := urlBackRow.holds Try.pinned (OpenSpec.ofChange urlBackWrong)

/-- 'marginalialaw.UrlOwn': WHATEVER THE INPUT: true; the input reads as it did. -/
def urlOwnSpec : ChangeSpec := { name := "urlOwn", fn := fun _ => fun
  | [d1, d2, d3] => { results := [.lit (.bool true)], args := [d1, d2, d3] }
  | _ => none }
def urlOwnRow : OpenClaim := { program := "ytpagegjhihijcaa", sum := "914ce6429b994cb044e707e9a34cd9e0addf4f224813c0de8c35c1b86e5ea200", func := "marginalia/marginalialaw.UrlOwn", spec := "urlOwn", inPlace := ["internal/bytealg.IndexByteString", "internal/bytealg.IndexString", "internal/abi.NoEscape", "internal/bytealg.MakeNoZero"], unfollowed := true, recurses := true, named := ["internal/bytealg.MaxLen"], apart := false }
def UrlOwnSaid : Prop := urlOwnRow.holds Try.pinned (OpenSpec.ofChange urlOwnSpec)

/-- ITS FALSE NEIGHBOUR: 'it returns false'. Refute it at one input. -/
def urlOwnWrong : ChangeSpec := { name := "urlOwn", fn := fun _ => fun
  | [d1, d2, d3] => { results := [.lit (.bool false)], args := [d1, d2, d3] }
  | _ => none }
def UrlOwnWrongFalsely : Prop := urlOwnRow.holds Try.pinned (OpenSpec.ofChange urlOwnWrong)

/-- 'marginalialaw.UrlSafe': WHATEVER THE INPUT: true; the input reads as it did. -/
def urlSafeSpec : ChangeSpec := { name := "urlSafe", fn := fun _ => fun
  | [d1, d2] => { results := [.lit (.bool true)], args := [d1, d2] }
  | _ => none }
def urlSafeRow : OpenClaim := { program := "ytpagegjhihijcaa", sum := "914ce6429b994cb044e707e9a34cd9e0addf4f224813c0de8c35c1b86e5ea200", func := "marginalia/marginalialaw.UrlSafe", spec := "urlSafe", inPlace := ["internal/bytealg.IndexByteString", "internal/bytealg.IndexString", "internal/abi.NoEscape", "internal/bytealg.MakeNoZero"], unfollowed := true, recurses := true, named := ["internal/bytealg.MaxLen"], apart := false }
def UrlSafeSaid : Prop := urlSafeRow.holds Try.pinned (OpenSpec.ofChange urlSafeSpec)

/-- ITS FALSE NEIGHBOUR: 'it returns false'. Refute it at one input. -/
def urlSafeWrong : ChangeSpec := { name := "urlSafe", fn := fun _ => fun
  | [d1, d2] => { results := [.lit (.bool false)], args := [d1, d2] }
  | _ => none }
def UrlSafeWrongFalsely : Prop := urlSafeRow.holds Try.pinned (OpenSpec.ofChange urlSafeWrong)

/- THE SECOND FORM. 'bulk': how many values and letters a reading holds, each counted each time it is reached (what is shared counts as often as it is met; a slice's spare places count too). A statement '..UptoSaid' is the law's where the arguments, and the package variables that the reading takes, are together of bulk at most 1048576: NARROWER than '..Said'. Prove '..Said' where nothing that the law and all that it calls make is longer than what came in: it says more and counts as full. Else prove '..UptoSaid'. A law counts once. -/
mutual
def uptoBulk {H : Type} : DataW H → Nat
  | .lit (.string bytes) => bytes.length + 1
  | .lit _ => 1
  | .nil => 1
  | .ptr d => uptoBulk d + 1
  | .slice elems spare => uptoBulkAll elems + uptoBulkAll spare + 1
  | .agg parts => uptoBulkAll parts + 1
  | .iface _ d => uptoBulk d + 1
  | .map entries => uptoBulkEntries entries + 1
  | .held _ => 1
def uptoBulkAll {H : Type} : List (DataW H) → Nat
  | [] => 0
  | d :: r => uptoBulk d + uptoBulkAll r
def uptoBulkEntries {H : Type} : List (Lit × DataW H) → Nat
  | [] => 0
  | x :: r => uptoBulkEntry x + uptoBulkEntries r
def uptoBulkEntry {H : Type} : Lit × DataW H → Nat
  | (.string bytes, d) => bytes.length + uptoBulk d + 1
  | (_, d) => uptoBulk d + 1
 end
def uptoSmall : (H : Type) → List (DataW H) → Bool := fun _ ds => decide (uptoBulkAll ds ≤ 1048576)
def OpenSpec.upto (s : _root_.Go.ChangeSpec) : _root_.Go.OpenSpec := { _root_.Go.OpenSpec.ofChange s with cond := some uptoSmall }

/-- 'marginalialaw.UrlTells', WHERE WHAT IT READS IS OF BULK AT MOST 1048576: true; the input reads as it did. -/
def urlTellsUptoRow : OpenClaim := { program := "ytpagegjhihijcaa", sum := "914ce6429b994cb044e707e9a34cd9e0addf4f224813c0de8c35c1b86e5ea200", func := "marginalia/marginalialaw.UrlTells", spec := "urlTells", inPlace := ["internal/bytealg.IndexByteString", "internal/bytealg.IndexString", "internal/abi.NoEscape", "internal/bytealg.MakeNoZero"], unfollowed := true, recurses := true, named := ["internal/bytealg.MaxLen"], apart := false, narrowed := true }
def UrlTellsUptoSaid : Prop := urlTellsUptoRow.holds Try.pinned (OpenSpec.upto urlTellsSpec)

/-- 'marginalialaw.UrlBack', WHERE WHAT IT READS IS OF BULK AT MOST 1048576: true; the input reads as it did. -/
def urlBackUptoRow : OpenClaim := { program := "ytpagegjhihijcaa", sum := "914ce6429b994cb044e707e9a34cd9e0addf4f224813c0de8c35c1b86e5ea200", func := "marginalia/marginalialaw.UrlBack", spec := "urlBack", inPlace := ["internal/bytealg.IndexByteString", "internal/bytealg.IndexString", "internal/abi.NoEscape", "internal/bytealg.MakeNoZero"], unfollowed := true, recurses := true, named := ["internal/bytealg.MaxLen"], apart := false, narrowed := true }
def UrlBackUptoSaid : Prop := urlBackUptoRow.holds Try.pinned (OpenSpec.upto urlBackSpec)

/-- 'marginalialaw.UrlOwn', WHERE WHAT IT READS IS OF BULK AT MOST 1048576: true; the input reads as it did. -/
def urlOwnUptoRow : OpenClaim := { program := "ytpagegjhihijcaa", sum := "914ce6429b994cb044e707e9a34cd9e0addf4f224813c0de8c35c1b86e5ea200", func := "marginalia/marginalialaw.UrlOwn", spec := "urlOwn", inPlace := ["internal/bytealg.IndexByteString", "internal/bytealg.IndexString", "internal/abi.NoEscape", "internal/bytealg.MakeNoZero"], unfollowed := true, recurses := true, named := ["internal/bytealg.MaxLen"], apart := false, narrowed := true }
def UrlOwnUptoSaid : Prop := urlOwnUptoRow.holds Try.pinned (OpenSpec.upto urlOwnSpec)

/-- 'marginalialaw.UrlSafe', WHERE WHAT IT READS IS OF BULK AT MOST 1048576: true; the input reads as it did. -/
def urlSafeUptoRow : OpenClaim := { program := "ytpagegjhihijcaa", sum := "914ce6429b994cb044e707e9a34cd9e0addf4f224813c0de8c35c1b86e5ea200", func := "marginalia/marginalialaw.UrlSafe", spec := "urlSafe", inPlace := ["internal/bytealg.IndexByteString", "internal/bytealg.IndexString", "internal/abi.NoEscape", "internal/bytealg.MakeNoZero"], unfollowed := true, recurses := true, named := ["internal/bytealg.MaxLen"], apart := false, narrowed := true }
def UrlSafeUptoSaid : Prop := urlSafeUptoRow.holds Try.pinned (OpenSpec.upto urlSafeSpec)

end Rows
end Go.Proofs.Ytpagegjhihijcaa
