/-
  No cell of these rows narrows 'for every input' (looked for: loops, veiled, ifaces, maps, wideKeys, modest, calm, conditions, laid).
  DERIVED. THE GIVEN ROWS OF THIS SEAT. 4 by the template 'for every input the law returns true; each argument reads behind the call as it read before'; 0 by the template 'total and deterministic' (their statements: YtkbajhiahpkgiaaGreatTotals.lean).
  GIVEN WITH THE SEED: the statements are not yours to turn. If you find one false, say at which input.
  Laid BY PROGRAM, IN A SANDBOX (cutbox-rows.mjs): the forced cells as the released guide's own fill.sh prints them over the translation 2523dc5f375c9287… (all of the seat's roots in one cut). By AI agents, Wed Nov 11 2026. No macro, syntax, notation, axiom, sorry.
-/
import Derived.Test.YtkbajhiahpkgiaaGreatChecked
import GoSem.Claim
import GoSem.ClaimJoined
import GoSem.ClaimMapViews
import Derived.JoinedTies
import Derived.KernelRfl
namespace Go.Proofs.YtkbajhiahpkgiaaGreat
/- THE CELL 'sum', in the pinned program and in every row, IS THE sha256 OF THE DUMP (.gsa) THAT YtkbajhiahpkgiaaGreatProg.lean LOADS. Nothing in Lean hashes anything: it is a label: what it is worth is what the hold of that sum in a sandbox is worth. -/
noncomputable def Tryz.pinned : Pinned := { name := "ytkbajhiahpkgiaagreat", sum := "2523dc5f375c92876173d63660f38cb3f0ed3809d07c68dcac1b1c269ca50c74", checked := Tryz.checked }
namespace Rows
def none {H : Type} : Left H := { results := [], args := [] }

/-- 'mudlarklaw19.PostMakes': WHATEVER THE INPUT: true; the input reads as it did. -/
def postMakesSpec : ChangeSpec := { name := "postMakes", fn := fun _ => fun
  | [d] => { results := [.lit (.bool true)], args := [d] }
  | _ => none }
def postMakesRow : OpenClaim := { program := "ytkbajhiahpkgiaagreat", sum := "2523dc5f375c92876173d63660f38cb3f0ed3809d07c68dcac1b1c269ca50c74", func := "mudlark/mudlarklaw19.PostMakes", spec := "postMakes", unfollowed := true, recurses := true, apart := false }
def PostMakesSaid : Prop := postMakesRow.holds Tryz.pinned (OpenSpec.ofChange postMakesSpec)

/-- ITS FALSE NEIGHBOUR: 'it returns false'. Refute it at one input. -/
def postMakesWrong : ChangeSpec := { name := "postMakes", fn := fun _ => fun
  | [d] => { results := [.lit (.bool false)], args := [d] }
  | _ => none }
def PostMakesWrongFalsely : Prop := postMakesRow.holds Tryz.pinned (OpenSpec.ofChange postMakesWrong)

/-- 'mudlarklaw19.PostGets': WHATEVER THE INPUT: true; the input reads as it did. -/
def postGetsSpec : ChangeSpec := { name := "postGets", fn := fun _ => fun
  | [d1, d2, d3] => { results := [.lit (.bool true)], args := [d1, d2, d3] }
  | _ => none }
def postGetsRow : OpenClaim := { program := "ytkbajhiahpkgiaagreat", sum := "2523dc5f375c92876173d63660f38cb3f0ed3809d07c68dcac1b1c269ca50c74", func := "mudlark/mudlarklaw19.PostGets", spec := "postGets", unfollowed := true, recurses := true, apart := false }
def PostGetsSaid : Prop := postGetsRow.holds Tryz.pinned (OpenSpec.ofChange postGetsSpec)

/-- ITS FALSE NEIGHBOUR: 'it returns false'. Refute it at one input. -/
def postGetsWrong : ChangeSpec := { name := "postGets", fn := fun _ => fun
  | [d1, d2, d3] => { results := [.lit (.bool false)], args := [d1, d2, d3] }
  | _ => none }
def PostGetsWrongFalsely : Prop := postGetsRow.holds Tryz.pinned (OpenSpec.ofChange postGetsWrong)

/-- 'mudlarklaw19.PostPuts': WHATEVER THE INPUT: true; the input reads as it did. -/
def postPutsSpec : ChangeSpec := { name := "postPuts", fn := fun _ => fun
  | [d] => { results := [.lit (.bool true)], args := [d] }
  | _ => none }
def postPutsRow : OpenClaim := { program := "ytkbajhiahpkgiaagreat", sum := "2523dc5f375c92876173d63660f38cb3f0ed3809d07c68dcac1b1c269ca50c74", func := "mudlark/mudlarklaw19.PostPuts", spec := "postPuts", unfollowed := true, recurses := true, apart := false }
def PostPutsSaid : Prop := postPutsRow.holds Tryz.pinned (OpenSpec.ofChange postPutsSpec)

/-- ITS FALSE NEIGHBOUR: 'it returns false'. Refute it at one input. -/
def postPutsWrong : ChangeSpec := { name := "postPuts", fn := fun _ => fun
  | [d] => { results := [.lit (.bool false)], args := [d] }
  | _ => none }
def PostPutsWrongFalsely : Prop := postPutsRow.holds Tryz.pinned (OpenSpec.ofChange postPutsWrong)

/-- 'mudlarklaw19.PostEnds': WHATEVER THE INPUT: true; the input reads as it did. -/
def postEndsSpec : ChangeSpec := { name := "postEnds", fn := fun _ => fun
  | [] => { results := [.lit (.bool true)], args := [] }
  | _ => none }
def postEndsRow : OpenClaim := { program := "ytkbajhiahpkgiaagreat", sum := "2523dc5f375c92876173d63660f38cb3f0ed3809d07c68dcac1b1c269ca50c74", func := "mudlark/mudlarklaw19.PostEnds", spec := "postEnds", unfollowed := true, recurses := true, apart := false }
def PostEndsSaid : Prop := postEndsRow.holds Tryz.pinned (OpenSpec.ofChange postEndsSpec)

/-- ITS FALSE NEIGHBOUR: 'it returns false'. Refute it at one input. -/
def postEndsWrong : ChangeSpec := { name := "postEnds", fn := fun _ => fun
  | [] => { results := [.lit (.bool false)], args := [] }
  | _ => none }
def PostEndsWrongFalsely : Prop := postEndsRow.holds Tryz.pinned (OpenSpec.ofChange postEndsWrong)

/- THE SECOND FORM. 'bulk': how many values and letters a reading holds, each counted each time it is reached (what is shared counts as often as it is met; a slice's spare places count too). A statement '..UptoSaid' is the law's where the arguments, and the package variables that the reading takes, are together of bulk at most 1048576: NARROWER than '..Said'. Prove '..Said' where nothing that the law and all that it calls make is longer than what came in: it says more and counts as full. Else prove '..UptoSaid'. A law counts once. -/
mutual
def uptoBulk {H : Type} : DataW H → Nat
  | .lit (.string bytes) => bytes.length + 1
  | .lit _ => 1
  | .nil => 1
  | .ptr d => uptoBulk d + 1
  | .slice elems spare => uptoBulkAll elems + uptoBulkAll spare + 1
  | .agg parts => uptoBulkAll parts + 1
  | .iface _ d => uptoBulk d + 1
  | .map entries => uptoBulkEntries entries + 1
  | .held _ => 1
def uptoBulkAll {H : Type} : List (DataW H) → Nat
  | [] => 0
  | d :: r => uptoBulk d + uptoBulkAll r
def uptoBulkEntries {H : Type} : List (Lit × DataW H) → Nat
  | [] => 0
  | x :: r => uptoBulkEntry x + uptoBulkEntries r
def uptoBulkEntry {H : Type} : Lit × DataW H → Nat
  | (.string bytes, d) => bytes.length + uptoBulk d + 1
  | (_, d) => uptoBulk d + 1
 end
def uptoSmall : (H : Type) → List (DataW H) → Bool := fun _ ds => decide (uptoBulkAll ds ≤ 1048576)
def OpenSpec.upto (s : _root_.Go.ChangeSpec) : _root_.Go.OpenSpec := { _root_.Go.OpenSpec.ofChange s with cond := some uptoSmall }

/-- 'mudlarklaw19.PostMakes', WHERE WHAT IT READS IS OF BULK AT MOST 1048576: true; the input reads as it did. -/
def postMakesUptoRow : OpenClaim := { program := "ytkbajhiahpkgiaagreat", sum := "2523dc5f375c92876173d63660f38cb3f0ed3809d07c68dcac1b1c269ca50c74", func := "mudlark/mudlarklaw19.PostMakes", spec := "postMakes", unfollowed := true, recurses := true, apart := false, narrowed := true }
def PostMakesUptoSaid : Prop := postMakesUptoRow.holds Tryz.pinned (OpenSpec.upto postMakesSpec)

/-- 'mudlarklaw19.PostGets', WHERE WHAT IT READS IS OF BULK AT MOST 1048576: true; the input reads as it did. -/
def postGetsUptoRow : OpenClaim := { program := "ytkbajhiahpkgiaagreat", sum := "2523dc5f375c92876173d63660f38cb3f0ed3809d07c68dcac1b1c269ca50c74", func := "mudlark/mudlarklaw19.PostGets", spec := "postGets", unfollowed := true, recurses := true, apart := false, narrowed := true }
def PostGetsUptoSaid : Prop := postGetsUptoRow.holds Tryz.pinned (OpenSpec.upto postGetsSpec)

/-- 'mudlarklaw19.PostPuts', WHERE WHAT IT READS IS OF BULK AT MOST 1048576: true; the input reads as it did. -/
def postPutsUptoRow : OpenClaim := { program := "ytkbajhiahpkgiaagreat", sum := "2523dc5f375c92876173d63660f38cb3f0ed3809d07c68dcac1b1c269ca50c74", func := "mudlark/mudlarklaw19.PostPuts", spec := "postPuts", unfollowed := true, recurses := true, apart := false, narrowed := true }
def PostPutsUptoSaid : Prop := postPutsUptoRow.holds Tryz.pinned (OpenSpec.upto postPutsSpec)

/-- 'mudlarklaw19.PostEnds', WHERE WHAT IT READS IS OF BULK AT MOST 1048576: true; the input reads as it did. -/
def postEndsUptoRow : OpenClaim := { program := "ytkbajhiahpkgiaagreat", sum := "2523dc5f375c92876173d63660f38cb3f0ed3809d07c68dcac1b1c269ca50c74", func := "mudlark/mudlarklaw19.PostEnds", spec := "postEnds", unfollowed := true, recurses := true, apart := false, narrowed := true }
def PostEndsUptoSaid : Prop := postEndsUptoRow.holds Tryz.pinned (OpenSpec.upto postEndsSpec)

end Rows
end Go.Proofs.YtkbajhiahpkgiaaGreat
