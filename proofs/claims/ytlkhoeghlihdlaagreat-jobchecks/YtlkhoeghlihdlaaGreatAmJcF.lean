import Derived.Test.YtlkhoeghlihdlaaGreatRows
import Derived.WalkKit
import Derived.ProofKit
import Derived.OpenShut
namespace Go.Proofs.YtlkhoeghlihdlaaGreat
open Go.ChangeShapes Go.WideShapes Go.ChangeAt Go.RowKit
theorem j2 : laidOutB Tryz.prog = true := by kernel_rfl
theorem j3 : mapsRowed Tryz.prog = true := by kernel_rfl
theorem ip3 : Tryz.prog.inPlace 3 = ["internal/abi.NoEscape"] := by kernel_rfl
theorem uf3 : Tryz.prog.unfollowed 3 = true := by kernel_rfl
theorem rc3 : Tryz.prog.recurses 3 = true := by kernel_rfl
theorem nm3 : Tryz.prog.varsNamed 3 = [] := by kernel_rfl
theorem closed3 : joinedFacts Tryz.prog 3 Tryz.f3 Rows.jobChecksSpec Rows.jobChecksRow = true := by
  unfold joinedFacts
  rw [j2, j3, ip3, uf3, rc3, nm3]
  kernel_rfl
theorem named3 : Tryz.prog.funcNamed Rows.jobChecksRow.func = some 3 := by kernel_rfl
end Go.Proofs.YtlkhoeghlihdlaaGreat
