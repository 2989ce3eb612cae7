/-
  No cell of these rows narrows 'for every input' (looked for: loops, veiled, ifaces, maps, wideKeys, modest, calm, conditions, laid).
  DERIVED. THE GIVEN ROWS OF THIS SEAT. 3 by the template 'for every input the law returns true; each argument reads behind the call as it read before'; 0 by the template 'total and deterministic' (their statements: YtfgkhkpngnhimaaTotals.lean).
  GIVEN WITH THE SEED: the statements are not yours to turn. If you find one false, say at which input.
  Laid BY PROGRAM, IN A SANDBOX (cutbox-rows.mjs): the forced cells as the released guide's own fill.sh prints them over the translation e7eaf4b79d6f7327… (all of the seat's roots in one cut). By AI agents, Wed Nov 11 2026. No macro, syntax, notation, axiom, sorry.
-/
import Derived.Test.YtfgkhkpngnhimaaChecked
import GoSem.Claim
import GoSem.ClaimJoined
import GoSem.ClaimMapViews
import Derived.JoinedTies
import Derived.KernelRfl
namespace Go.Proofs.Ytfgkhkpngnhimaa
/- THE CELL 'sum', in the pinned program and in every row, IS THE sha256 OF THE DUMP (.gsa) THAT YtfgkhkpngnhimaaProg.lean LOADS. Nothing in Lean hashes anything: it is a label: what it is worth is what the hold of that sum in a sandbox is worth. -/
noncomputable def Try.pinned : Pinned := { name := "ytfgkhkpngnhimaa", sum := "e7eaf4b79d6f73276acb9fb4b8317be42e6f9e4ebdb23715d51bc60e30efef11", checked := Try.checked }
namespace Rows
def none {H : Type} : Left H := { results := [], args := [] }

/-- 'mudlarklaw22.DocFiles': WHATEVER THE INPUT: true; the input reads as it did. -/
def docFilesSpec : ChangeSpec := { name := "docFiles", fn := fun _ => fun
  | [d] => { results := [.lit (.bool true)], args := [d] }
  | _ => none }
def docFilesRow : OpenClaim := { program := "ytfgkhkpngnhimaa", sum := "e7eaf4b79d6f73276acb9fb4b8317be42e6f9e4ebdb23715d51bc60e30efef11", func := "mudlark/mudlarklaw22.DocFiles", spec := "docFiles", inPlace := ["internal/bytealg.IndexByteString", "internal/bytealg.IndexString"], unfollowed := true, recurses := true, named := ["internal/bytealg.MaxLen"], apart := false }
def DocFilesSaid : Prop := docFilesRow.holds Try.pinned (OpenSpec.ofChange docFilesSpec)

/-- ITS FALSE NEIGHBOUR: 'it returns false'. Refute it at one input. -/
def docFilesWrong : ChangeSpec := { name := "docFiles", fn := fun _ => fun
  | [d] => { results := [.lit (.bool false)], args := [d] }
  | _ => none }
def DocFilesWrongFalsely : Prop := docFilesRow.holds Try.pinned (OpenSpec.ofChange docFilesWrong)

/-- 'mudlarklaw22.DocGets': WHATEVER THE INPUT: true; the input reads as it did. -/
def docGetsSpec : ChangeSpec := { name := "docGets", fn := fun _ => fun
  | [d] => { results := [.lit (.bool true)], args := [d] }
  | _ => none }
def docGetsRow : OpenClaim := { program := "ytfgkhkpngnhimaa", sum := "e7eaf4b79d6f73276acb9fb4b8317be42e6f9e4ebdb23715d51bc60e30efef11", func := "mudlark/mudlarklaw22.DocGets", spec := "docGets", inPlace := ["internal/bytealg.IndexByteString", "internal/bytealg.IndexString"], unfollowed := true, recurses := true, named := ["internal/bytealg.MaxLen"], apart := false }
def DocGetsSaid : Prop := docGetsRow.holds Try.pinned (OpenSpec.ofChange docGetsSpec)

/-- ITS FALSE NEIGHBOUR: 'it returns false'. Refute it at one input. -/
def docGetsWrong : ChangeSpec := { name := "docGets", fn := fun _ => fun
  | [d] => { results := [.lit (.bool false)], args := [d] }
  | _ => none }
def DocGetsWrongFalsely : Prop := docGetsRow.holds Try.pinned (OpenSpec.ofChange docGetsWrong)

/-- 'mudlarklaw22.DocBack': WHATEVER THE INPUT: true; the input reads as it did. -/
def docBackSpec : ChangeSpec := { name := "docBack", fn := fun _ => fun
  | [d1, d2] => { results := [.lit (.bool true)], args := [d1, d2] }
  | _ => none }
def docBackRow : OpenClaim := { program := "ytfgkhkpngnhimaa", sum := "e7eaf4b79d6f73276acb9fb4b8317be42e6f9e4ebdb23715d51bc60e30efef11", func := "mudlark/mudlarklaw22.DocBack", spec := "docBack", inPlace := ["internal/bytealg.IndexByteString", "internal/bytealg.IndexString"], unfollowed := true, recurses := true, named := ["internal/bytealg.MaxLen"], apart := false }
def DocBackSaid : Prop := docBackRow.holds Try.pinned (OpenSpec.ofChange docBackSpec)

/-- ITS FALSE NEIGHBOUR: 'it returns false'. Refute it at one input. -/
def docBackWrong : ChangeSpec := { name := "docBack", fn := fun _ => fun
  | [d1, d2] => { results := [.lit (.bool false)], args := [d1, d2] }
  | _ => none }
def DocBackWrongFalsely : Prop := docBackRow.holds Try.pinned (OpenSpec.ofChange docBackWrong)

/- THE SECOND FORM. 'bulk': how many values and letters a reading holds, each counted each time it is reached (what is shared counts as often as it is met; a slice's spare places count too). A statement '..UptoSaid' is the law's where the arguments, and the package variables that the reading takes, are together of bulk at most 1048576: NARROWER than '..Said'. Prove '..Said' where nothing that the law and all that it calls make is longer than what came in: it says more and counts as full. Else prove '..UptoSaid'. A law counts once. -/
mutual
def uptoBulk {H : Type} : DataW H → Nat
  | .lit (.string bytes) => bytes.length + 1
  | .lit _ => 1
  | .nil => 1
  | .ptr d => uptoBulk d + 1
  | .slice elems spare => uptoBulkAll elems + uptoBulkAll spare + 1
  | .agg parts => uptoBulkAll parts + 1
  | .iface _ d => uptoBulk d + 1
  | .map entries => uptoBulkEntries entries + 1
  | .held _ => 1
def uptoBulkAll {H : Type} : List (DataW H) → Nat
  | [] => 0
  | d :: r => uptoBulk d + uptoBulkAll r
def uptoBulkEntries {H : Type} : List (Lit × DataW H) → Nat
  | [] => 0
  | x :: r => uptoBulkEntry x + uptoBulkEntries r
def uptoBulkEntry {H : Type} : Lit × DataW H → Nat
  | (.string bytes, d) => bytes.length + uptoBulk d + 1
  | (_, d) => uptoBulk d + 1
 end
def uptoSmall : (H : Type) → List (DataW H) → Bool := fun _ ds => decide (uptoBulkAll ds ≤ 1048576)
def OpenSpec.upto (s : _root_.Go.ChangeSpec) : _root_.Go.OpenSpec := { _root_.Go.OpenSpec.ofChange s with cond := some uptoSmall }

/-- 'mudlarklaw22.DocFiles', WHERE WHAT IT READS IS OF BULK AT MOST 1048576: true; the input reads as it did. -/
def docFilesUptoRow : OpenClaim := { program := "ytfgkhkpngnhimaa", sum := "e7eaf4b79d6f73276acb9fb4b8317be42e6f9e4ebdb23715d51bc60e30efef11", func := "mudlark/mudlarklaw22.DocFiles", spec := "docFiles", inPlace := ["internal/bytealg.IndexByteString", "internal/bytealg.IndexString"], unfollowed := true, recurses := true, named := ["internal/bytealg.MaxLen"], apart := false, narrowed := true }
def DocFilesUptoSaid : Prop := docFilesUptoRow.holds Try.pinned (OpenSpec.upto docFilesSpec)

/-- 'mudlarklaw22.DocGets', WHERE WHAT IT READS IS OF BULK AT MOST 1048576: true; the input reads as it did. -/
def docGetsUptoRow : OpenClaim := { program := "ytfgkhkpngnhimaa", sum := "e7eaf4b79d6f73276acb9fb4b8317be42e6f9e4ebdb23715d51bc60e30efef11", func := "mudlark/mudlarklaw22.DocGets", spec := "docGets", inPlace := ["internal/bytealg.IndexByteString", "internal/bytealg.IndexString"], unfollowed := true, recurses := true, named := ["internal/bytealg.MaxLen"], apart := false, narrowed := true }
def DocGetsUptoSaid : Prop := docGetsUptoRow.holds Try.pinned (OpenSpec.upto docGetsSpec)

/-- 'mudlarklaw22.DocBack', WHERE WHAT IT READS IS OF BULK AT MOST 1048576: true; the input reads as it did. -/
def docBackUptoRow : OpenClaim := { program := "ytfgkhkpngnhimaa", sum := "e7eaf4b79d6f73276acb9fb4b8317be42e6f9e4ebdb23715d51bc60e30efef11", func := "mudlark/mudlarklaw22.DocBack", spec := "docBack", inPlace := ["internal/bytealg.IndexByteString", "internal/bytealg.IndexString"], unfollowed := true, recurses := true, named := ["internal/bytealg.MaxLen"], apart := false, narrowed := true }
def DocBackUptoSaid : Prop := docBackUptoRow.holds Try.pinned (OpenSpec.upto docBackSpec)

end Rows
end Go.Proofs.Ytfgkhkpngnhimaa
