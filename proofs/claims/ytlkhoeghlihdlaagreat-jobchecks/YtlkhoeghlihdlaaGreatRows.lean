/-
  No cell of these rows narrows 'for every input' (looked for: loops, veiled, ifaces, maps, wideKeys, modest, calm, conditions, laid).
  DERIVED. THE GIVEN ROWS OF THIS SEAT. 2 by the template 'for every input the law returns true; each argument reads behind the call as it read before'; 0 by the template 'total and deterministic' (their statements: YtlkhoeghlihdlaaGreatTotals.lean).
  GIVEN WITH THE SEED: the statements are not yours to turn. If you find one false, say at which input.
  Laid BY PROGRAM, IN A SANDBOX (cutbox-rows.mjs): the forced cells as the released guide's own fill.sh prints them over the translation 6442017fd24c9c45… (all of the seat's roots in one cut). By AI agents, Wed Nov 11 2026. No macro, syntax, notation, axiom, sorry.
-/
import Derived.Test.YtlkhoeghlihdlaaGreatChecked
import GoSem.Claim
import GoSem.ClaimJoined
import GoSem.ClaimMapViews
import Derived.JoinedTies
import Derived.KernelRfl
namespace Go.Proofs.YtlkhoeghlihdlaaGreat
/- THE CELL 'sum', in the pinned program and in every row, IS THE sha256 OF THE DUMP (.gsa) THAT YtlkhoeghlihdlaaGreatProg.lean LOADS. Nothing in Lean hashes anything: it is a label: what it is worth is what the hold of that sum in a sandbox is worth. -/
noncomputable def Tryz.pinned : Pinned := { name := "ytlkhoeghlihdlaagreat", sum := "6442017fd24c9c4557c029ca60a7e492e474bdac685de9242db352ed122e2971", checked := Tryz.checked }
namespace Rows
def none {H : Type} : Left H := { results := [], args := [] }

/-- 'additivelaw57.JobChecks': WHATEVER THE INPUT: true; the input reads as it did. -/
def jobChecksSpec : ChangeSpec := { name := "jobChecks", fn := fun _ => fun
  | [d1, d2] => { results := [.lit (.bool true)], args := [d1, d2] }
  | _ => none }
def jobChecksRow : OpenClaim := { program := "ytlkhoeghlihdlaagreat", sum := "6442017fd24c9c4557c029ca60a7e492e474bdac685de9242db352ed122e2971", func := "additive/additivelaw57.JobChecks", spec := "jobChecks", inPlace := ["internal/abi.NoEscape"], unfollowed := true, recurses := true, plainKeys := false, apart := false }
def JobChecksSaid : Prop := jobChecksRow.holds Tryz.pinned (OpenSpec.ofChange jobChecksSpec)

/-- ITS FALSE NEIGHBOUR: 'it returns false'. Refute it at one input. -/
def jobChecksWrong : ChangeSpec := { name := "jobChecks", fn := fun _ => fun
  | [d1, d2] => { results := [.lit (.bool false)], args := [d1, d2] }
  | _ => none }
def JobChecksWrongFalsely : Prop := jobChecksRow.holds Tryz.pinned (OpenSpec.ofChange jobChecksWrong)

/-- 'additivelaw57.JobMade': WHATEVER THE INPUT: true; the input reads as it did. -/
def jobMadeSpec : ChangeSpec := { name := "jobMade", fn := fun _ => fun
  | [d] => { results := [.lit (.bool true)], args := [d] }
  | _ => none }
def jobMadeRow : OpenClaim := { program := "ytlkhoeghlihdlaagreat", sum := "6442017fd24c9c4557c029ca60a7e492e474bdac685de9242db352ed122e2971", func := "additive/additivelaw57.JobMade", spec := "jobMade", inPlace := ["internal/abi.NoEscape"], unfollowed := true, recurses := true, plainKeys := false, apart := false }
def JobMadeSaid : Prop := jobMadeRow.holds Tryz.pinned (OpenSpec.ofChange jobMadeSpec)

/-- ITS FALSE NEIGHBOUR: 'it returns false'. Refute it at one input. -/
def jobMadeWrong : ChangeSpec := { name := "jobMade", fn := fun _ => fun
  | [d] => { results := [.lit (.bool false)], args := [d] }
  | _ => none }
def JobMadeWrongFalsely : Prop := jobMadeRow.holds Tryz.pinned (OpenSpec.ofChange jobMadeWrong)

/- THE SECOND FORM. 'bulk': how many values and letters a reading holds, each counted each time it is reached (what is shared counts as often as it is met; a slice's spare places count too). A statement '..UptoSaid' is the law's where the arguments, and the package variables that the reading takes, are together of bulk at most 1048576: NARROWER than '..Said'. Prove '..Said' where nothing that the law and all that it calls make is longer than what came in: it says more and counts as full. Else prove '..UptoSaid'. A law counts once. -/
mutual
def uptoBulk {H : Type} : DataW H → Nat
  | .lit (.string bytes) => bytes.length + 1
  | .lit _ => 1
  | .nil => 1
  | .ptr d => uptoBulk d + 1
  | .slice elems spare => uptoBulkAll elems + uptoBulkAll spare + 1
  | .agg parts => uptoBulkAll parts + 1
  | .iface _ d => uptoBulk d + 1
  | .map entries => uptoBulkEntries entries + 1
  | .held _ => 1
def uptoBulkAll {H : Type} : List (DataW H) → Nat
  | [] => 0
  | d :: r => uptoBulk d + uptoBulkAll r
def uptoBulkEntries {H : Type} : List (Lit × DataW H) → Nat
  | [] => 0
  | x :: r => uptoBulkEntry x + uptoBulkEntries r
def uptoBulkEntry {H : Type} : Lit × DataW H → Nat
  | (.string bytes, d) => bytes.length + uptoBulk d + 1
  | (_, d) => uptoBulk d + 1
 end
def uptoSmall : (H : Type) → List (DataW H) → Bool := fun _ ds => decide (uptoBulkAll ds ≤ 1048576)
def OpenSpec.upto (s : _root_.Go.ChangeSpec) : _root_.Go.OpenSpec := { _root_.Go.OpenSpec.ofChange s with cond := some uptoSmall }

/-- 'additivelaw57.JobChecks', WHERE WHAT IT READS IS OF BULK AT MOST 1048576: true; the input reads as it did. -/
def jobChecksUptoRow : OpenClaim := { program := "ytlkhoeghlihdlaagreat", sum := "6442017fd24c9c4557c029ca60a7e492e474bdac685de9242db352ed122e2971", func := "additive/additivelaw57.JobChecks", spec := "jobChecks", inPlace := ["internal/abi.NoEscape"], unfollowed := true, recurses := true, plainKeys := false, apart := false, narrowed := true }
def JobChecksUptoSaid : Prop := jobChecksUptoRow.holds Tryz.pinned (OpenSpec.upto jobChecksSpec)

/-- 'additivelaw57.JobMade', WHERE WHAT IT READS IS OF BULK AT MOST 1048576: true; the input reads as it did. -/
def jobMadeUptoRow : OpenClaim := { program := "ytlkhoeghlihdlaagreat", sum := "6442017fd24c9c4557c029ca60a7e492e474bdac685de9242db352ed122e2971", func := "additive/additivelaw57.JobMade", spec := "jobMade", inPlace := ["internal/abi.NoEscape"], unfollowed := true, recurses := true, plainKeys := false, apart := false, narrowed := true }
def JobMadeUptoSaid : Prop := jobMadeUptoRow.holds Tryz.pinned (OpenSpec.upto jobMadeSpec)

end Rows
end Go.Proofs.YtlkhoeghlihdlaaGreat
