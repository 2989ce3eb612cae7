/-
  No cell of these rows narrows 'for every input' (looked for: loops, veiled, ifaces, maps, wideKeys, modest, calm, conditions, laid).
  DERIVED. THE GIVEN ROWS OF THIS SEAT. 4 by the template 'for every input the law returns true; each argument reads behind the call as it read before'; 0 by the template 'total and deterministic' (their statements: YtohpeoakdgckfaaGreatTotals.lean).
  GIVEN WITH THE SEED: the statements are not yours to turn. If you find one false, say at which input.
  Laid BY PROGRAM, IN A SANDBOX (cutbox-rows.mjs): the forced cells as the released guide's own fill.sh prints them over the translation 75d38cf697924206… (all of the seat's roots in one cut). By AI agents, Wed Nov 11 2026. No macro, syntax, notation, axiom, sorry.
-/
import Derived.Test.YtohpeoakdgckfaaGreatChecked
import GoSem.Claim
import GoSem.ClaimJoined
import GoSem.ClaimMapViews
import Derived.JoinedTies
import Derived.KernelRfl
namespace Go.Proofs.YtohpeoakdgckfaaGreat
/- THE CELL 'sum', in the pinned program and in every row, IS THE sha256 OF THE DUMP (.gsa) THAT YtohpeoakdgckfaaGreatProg.lean LOADS. Nothing in Lean hashes anything: it is a label: what it is worth is what the hold of that sum in a sandbox is worth. -/
noncomputable def Tryz.pinned : Pinned := { name := "ytohpeoakdgckfaagreat", sum := "75d38cf697924206e780b839efb86c2c41405677f6f0bc3e4a3978eed9e62f1c", checked := Tryz.checked }
namespace Rows
def none {H : Type} : Left H := { results := [], args := [] }

/-- 'mudlarklaw23.ShardMakes': WHATEVER THE INPUT: true; the input reads as it did. -/
def shardMakesSpec : ChangeSpec := { name := "shardMakes", fn := fun _ => fun
  | [d] => { results := [.lit (.bool true)], args := [d] }
  | _ => none }
def shardMakesRow : OpenClaim := { program := "ytohpeoakdgckfaagreat", sum := "75d38cf697924206e780b839efb86c2c41405677f6f0bc3e4a3978eed9e62f1c", func := "mudlark/mudlarklaw23.ShardMakes", spec := "shardMakes", inPlace := ["internal/bytealg.IndexByteString", "internal/bytealg.IndexString"], unfollowed := true, recurses := true, named := ["internal/bytealg.MaxLen"], apart := false }
def ShardMakesSaid : Prop := shardMakesRow.holds Tryz.pinned (OpenSpec.ofChange shardMakesSpec)

/-- ITS FALSE NEIGHBOUR: 'it returns false'. Refute it at one input. -/
def shardMakesWrong : ChangeSpec := { name := "shardMakes", fn := fun _ => fun
  | [d] => { results := [.lit (.bool false)], args := [d] }
  | _ => none }
def ShardMakesWrongFalsely : Prop := shardMakesRow.holds Tryz.pinned (OpenSpec.ofChange shardMakesWrong)

/-- 'mudlarklaw23.ShardOpens': WHATEVER THE INPUT: true; the input reads as it did. -/
def shardOpensSpec : ChangeSpec := { name := "shardOpens", fn := fun _ => fun
  | [d1, d2] => { results := [.lit (.bool true)], args := [d1, d2] }
  | _ => none }
def shardOpensRow : OpenClaim := { program := "ytohpeoakdgckfaagreat", sum := "75d38cf697924206e780b839efb86c2c41405677f6f0bc3e4a3978eed9e62f1c", func := "mudlark/mudlarklaw23.ShardOpens", spec := "shardOpens", inPlace := ["internal/bytealg.IndexByteString", "internal/bytealg.IndexString"], unfollowed := true, recurses := true, named := ["internal/bytealg.MaxLen"], apart := false }
def ShardOpensSaid : Prop := shardOpensRow.holds Tryz.pinned (OpenSpec.ofChange shardOpensSpec)

/-- ITS FALSE NEIGHBOUR: 'it returns false'. Refute it at one input. -/
def shardOpensWrong : ChangeSpec := { name := "shardOpens", fn := fun _ => fun
  | [d1, d2] => { results := [.lit (.bool false)], args := [d1, d2] }
  | _ => none }
def ShardOpensWrongFalsely : Prop := shardOpensRow.holds Tryz.pinned (OpenSpec.ofChange shardOpensWrong)

/-- 'mudlarklaw23.ShardParts': WHATEVER THE INPUT: true; the input reads as it did. -/
def shardPartsSpec : ChangeSpec := { name := "shardParts", fn := fun _ => fun
  | [] => { results := [.lit (.bool true)], args := [] }
  | _ => none }
def shardPartsRow : OpenClaim := { program := "ytohpeoakdgckfaagreat", sum := "75d38cf697924206e780b839efb86c2c41405677f6f0bc3e4a3978eed9e62f1c", func := "mudlark/mudlarklaw23.ShardParts", spec := "shardParts", inPlace := ["internal/bytealg.IndexByteString", "internal/bytealg.IndexString"], unfollowed := true, recurses := true, named := ["internal/bytealg.MaxLen"], apart := false }
def ShardPartsSaid : Prop := shardPartsRow.holds Tryz.pinned (OpenSpec.ofChange shardPartsSpec)

/-- ITS FALSE NEIGHBOUR: 'it returns false'. Refute it at one input. -/
def shardPartsWrong : ChangeSpec := { name := "shardParts", fn := fun _ => fun
  | [] => { results := [.lit (.bool false)], args := [] }
  | _ => none }
def ShardPartsWrongFalsely : Prop := shardPartsRow.holds Tryz.pinned (OpenSpec.ofChange shardPartsWrong)

/-- 'mudlarklaw23.ShardSafe': WHATEVER THE INPUT: true; the input reads as it did. -/
def shardSafeSpec : ChangeSpec := { name := "shardSafe", fn := fun _ => fun
  | [d1, d2, d3, d4, d5] => { results := [.lit (.bool true)], args := [d1, d2, d3, d4, d5] }
  | _ => none }
def shardSafeRow : OpenClaim := { program := "ytohpeoakdgckfaagreat", sum := "75d38cf697924206e780b839efb86c2c41405677f6f0bc3e4a3978eed9e62f1c", func := "mudlark/mudlarklaw23.ShardSafe", spec := "shardSafe", inPlace := ["internal/bytealg.IndexByteString", "internal/bytealg.IndexString"], unfollowed := true, recurses := true, named := ["internal/bytealg.MaxLen"], apart := false }
def ShardSafeSaid : Prop := shardSafeRow.holds Tryz.pinned (OpenSpec.ofChange shardSafeSpec)

/-- ITS FALSE NEIGHBOUR: 'it returns false'. Refute it at one input. -/
def shardSafeWrong : ChangeSpec := { name := "shardSafe", fn := fun _ => fun
  | [d1, d2, d3, d4, d5] => { results := [.lit (.bool false)], args := [d1, d2, d3, d4, d5] }
  | _ => none }
def ShardSafeWrongFalsely : Prop := shardSafeRow.holds Tryz.pinned (OpenSpec.ofChange shardSafeWrong)

/- THE SECOND FORM. 'bulk': how many values and letters a reading holds, each counted each time it is reached (what is shared counts as often as it is met; a slice's spare places count too). A statement '..UptoSaid' is the law's where the arguments, and the package variables that the reading takes, are together of bulk at most 1048576: NARROWER than '..Said'. Prove '..Said' where nothing that the law and all that it calls make is longer than what came in: it says more and counts as full. Else prove '..UptoSaid'. A law counts once. -/
mutual
def uptoBulk {H : Type} : DataW H → Nat
  | .lit (.string bytes) => bytes.length + 1
  | .lit _ => 1
  | .nil => 1
  | .ptr d => uptoBulk d + 1
  | .slice elems spare => uptoBulkAll elems + uptoBulkAll spare + 1
  | .agg parts => uptoBulkAll parts + 1
  | .iface _ d => uptoBulk d + 1
  | .map entries => uptoBulkEntries entries + 1
  | .held _ => 1
def uptoBulkAll {H : Type} : List (DataW H) → Nat
  | [] => 0
  | d :: r => uptoBulk d + uptoBulkAll r
def uptoBulkEntries {H : Type} : List (Lit × DataW H) → Nat
  | [] => 0
  | x :: r => uptoBulkEntry x + uptoBulkEntries r
def uptoBulkEntry {H : Type} : Lit × DataW H → Nat
  | (.string bytes, d) => bytes.length + uptoBulk d + 1
  | (_, d) => uptoBulk d + 1
 end
def uptoSmall : (H : Type) → List (DataW H) → Bool := fun _ ds => decide (uptoBulkAll ds ≤ 1048576)
def OpenSpec.upto (s : _root_.Go.ChangeSpec) : _root_.Go.OpenSpec := { _root_.Go.OpenSpec.ofChange s with cond := some uptoSmall }

/-- 'mudlarklaw23.ShardMakes', WHERE WHAT IT READS IS OF BULK AT MOST 1048576: true; the input reads as it did. -/
def shardMakesUptoRow : OpenClaim := { program := "ytohpeoakdgckfaagreat", sum := "75d38cf697924206e780b839efb86c2c41405677f6f0bc3e4a3978eed9e62f1c", func := "mudlark/mudlarklaw23.ShardMakes", spec := "shardMakes", inPlace := ["internal/bytealg.IndexByteString", "internal/bytealg.IndexString"], unfollowed := true, recurses := true, named := ["internal/bytealg.MaxLen"], apart := false, narrowed := true }
def ShardMakesUptoSaid : Prop := shardMakesUptoRow.holds Tryz.pinned (OpenSpec.upto shardMakesSpec)

/-- 'mudlarklaw23.ShardOpens', WHERE WHAT IT READS IS OF BULK AT MOST 1048576: true; the input reads as it did. -/
def shardOpensUptoRow : OpenClaim := { program := "ytohpeoakdgckfaagreat", sum := "75d38cf697924206e780b839efb86c2c41405677f6f0bc3e4a3978eed9e62f1c", func := "mudlark/mudlarklaw23.ShardOpens", spec := "shardOpens", inPlace := ["internal/bytealg.IndexByteString", "internal/bytealg.IndexString"], unfollowed := true, recurses := true, named := ["internal/bytealg.MaxLen"], apart := false, narrowed := true }
def ShardOpensUptoSaid : Prop := shardOpensUptoRow.holds Tryz.pinned (OpenSpec.upto shardOpensSpec)

/-- 'mudlarklaw23.ShardParts', WHERE WHAT IT READS IS OF BULK AT MOST 1048576: true; the input reads as it did. -/
def shardPartsUptoRow : OpenClaim := { program := "ytohpeoakdgckfaagreat", sum := "75d38cf697924206e780b839efb86c2c41405677f6f0bc3e4a3978eed9e62f1c", func := "mudlark/mudlarklaw23.ShardParts", spec := "shardParts", inPlace := ["internal/bytealg.IndexByteString", "internal/bytealg.IndexString"], unfollowed := true, recurses := true, named := ["internal/bytealg.MaxLen"], apart := false, narrowed := true }
def ShardPartsUptoSaid : Prop := shardPartsUptoRow.holds Tryz.pinned (OpenSpec.upto shardPartsSpec)

/-- 'mudlarklaw23.ShardSafe', WHERE WHAT IT READS IS OF BULK AT MOST 1048576: true; the input reads as it did. -/
def shardSafeUptoRow : OpenClaim := { program := "ytohpeoakdgckfaagreat", sum := "75d38cf697924206e780b839efb86c2c41405677f6f0bc3e4a3978eed9e62f1c", func := "mudlark/mudlarklaw23.ShardSafe", spec := "shardSafe", inPlace := ["internal/bytealg.IndexByteString", "internal/bytealg.IndexString"], unfollowed := true, recurses := true, named := ["internal/bytealg.MaxLen"], apart := false, narrowed := true }
def ShardSafeUptoSaid : Prop := shardSafeUptoRow.holds Tryz.pinned (OpenSpec.upto shardSafeSpec)

end Rows
end Go.Proofs.YtohpeoakdgckfaaGreat
