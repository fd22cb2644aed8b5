import Derived.Test.YtlkhoeghlihdlaaGreatAmDrw3
import Derived.Test.YtlkhoeghlihdlaaGreatAmSy6
import Derived.Test.YtlkhoeghlihdlaaGreatProg
import Derived.Test.YtlkhoeghlihdlaaGreatAmOk
import Derived.Test.YtlkhoeghlihdlaaGreatAmWk
import Derived.OpenShut
namespace Go.Am.Pz
open Go.Am Go.Proofs
set_option maxRecDepth 1000000
def f3 : F := ⟨[(p4, none)], (.seq (.ops [⟨(some p2), .box 47 (.t p0), none⟩, ⟨(some p3), .box 57 (.t p1), none⟩, ⟨(some p4), .mv (.c (.w (.bool false))), none⟩]) (.seq (.drw [⟨(some p5), .ld (some 20) (.t p2), none⟩, ⟨(some p6), .ld (some 30) (.t p3), none⟩, ⟨(some p7), .call (.c (.w (.fnc p5))) [(.t p5), (.t p6)], none⟩, ⟨(some p8), .ld (some 20) (.t p2), none⟩, ⟨(some p9), .ld (some 30) (.t p3), none⟩, ⟨(some p10), .call (.c (.w (.fnc p6))) [(.t p8), (.t p9)], none⟩, ⟨(some p11), .bin .eql (.t p7) (.t p10), none⟩, ⟨(some p12), .mv (.t p11), none⟩, ⟨(some p13), .call (.c (.w (.fnc p7))) [], some (p12, true)⟩, ⟨(some p14), .pick (.t p12) (.t p13) (.c (.w (.bool false))), none⟩, ⟨(some p4), .mv (.t p14), none⟩] [some [], some [], some [], some [2], some [2], some [], none, none, some [], none, none]) .ret))⟩
theorem ok3 : okF okDr Tryz.prog 3 f3 = true := by decide +kernel
end Go.Am.Pz
namespace Go.Am.Pz
open Go.Am Go.Proofs
set_option maxRecDepth 1000000
theorem k13b : CtOk Tryz.prog 13 c11 := k13.congr e13to11
theorem k14b : CtOk Tryz.prog 14 c12 := k14.congr e14to12
def t1 : List (P × Ct) := [(p11, c11), (p12, c12), (p13, c11), (p14, c12)]
theorem t1ok : TbOk Tryz.prog (tbL t1) := tbL_cons k11 (tbL_cons k12 (tbL_cons k13b (tbL_cons k14b tbL_nil)))
def c5 : Ct := ⟨[some 20, some 30], List.replicate 7 Ty.i ++ [.b] ++ List.replicate 12 .i ++ List.replicate 28 .i ++ [.b, .i], (.w (.ite (.ite (.ite (.un .not (.ite (.un .not (.ite (.un .not (.ite (.ite (.bin .geq (.v 0) (.c (.int .i64 32))) (.bin .leq (.v 0) (.c (.int .i64 1024))) (.c (.bool .false))) (.bin .eql (.bin .rem (.v 0) (.c (.int .i64 2))) (.c (.int .i64 0))) (.c (.bool .false)))) (.c (.bool .true)) (.un .not (.ite (.ite (.bin .geq (.v 1) (.c (.int .i64 4))) (.bin .leq (.v 1) (.c (.int .i64 1024))) (.c (.bool .false))) (.bin .eql (.bin .rem (.v 1) (.c (.int .i64 2))) (.c (.int .i64 0))) (.c (.bool .false)))))) (.ite (.un .not (.ite (.ite (.un .not (.ite (.bin .geq (.v 2) (.c (.int .i64 0))) (.bin .leq (.v 2) (.c (.int .i64 8))) (.c (.bool .false)))) (.c (.bool .true)) (.un .not (.ite (.bin .geq (.v 3) (.c (.int .i64 0))) (.bin .leq (.v 3) (.c (.int .i64 16))) (.c (.bool .false))))) (.c (.bool .true)) (.un .not (.ite (.bin .geq (.v 4) (.c (.int .i64 0))) (.bin .leq (.v 4) (.c (.int .i64 16))) (.c (.bool .false)))))) (.ite (.un .not (.ite (.un .not (.ite (.bin .geq (.v 5) (.c (.int .i64 0))) (.bin .leq (.v 5) (.c (.int .i64 3))) (.c (.bool .false)))) (.c (.bool .true)) (.un .not (.ite (.bin .geq (.v 6) (.c (.int .i64 1))) (.bin .leq (.v 6) (.c (.int .i64 64))) (.c (.bool .false)))))) (.ite (.un .not (.ite (.ite (.ite (.un .not (.ite (.bin .geq (.v 8) (.c (.int .i64 0))) (.bin .leq (.v 8) (.c (.int .i64 64))) (.c (.bool .false)))) (.c (.bool .true)) (.un .not (.ite (.bin .geq (.v 9) (.c (.int .i64 0))) (.bin .leq (.v 9) (.c (.int .i64 64))) (.c (.bool .false))))) (.c (.bool .true)) (.un .not (.ite (.bin .geq (.v 10) (.c (.int .i64 0))) (.bin .leq (.v 10) (.c (.int .i64 64))) (.c (.bool .false))))) (.c (.bool .true)) (.un .not (.ite (.bin .geq (.v 11) (.c (.int .i64 0))) (.bin .leq (.v 11) (.c (.int .i64 63))) (.c (.bool .false)))))) (.ite (.un .not (.ite (.un .not (.ite (.bin .geq (.v 12) (.c (.int .i64 1))) (.bin .leq (.v 12) (.c (.int .i64 1073741824))) (.c (.bool .false)))) (.c (.bool .true)) (.un .not (.ite (.bin .geq (.v 15) (.c (.int .i64 0))) (.bin .leq (.v 15) (.c (.int .i64 65536))) (.c (.bool .false)))))) (.ite (.un .not (.ite (.ite (.ite (.un .not (.ite (.bin .geq (.v 13) (.c (.int .i64 1))) (.bin .leq (.v 13) (.c (.int .i64 1048576))) (.c (.bool .false)))) (.c (.bool .true)) (.un .not (.ite (.bin .geq (.v 14) (.c (.int .i64 1))) (.bin .leq (.v 14) (.c (.int .i64 1048576))) (.c (.bool .false))))) (.c (.bool .true)) (.un .not (.ite (.bin .geq (.v 16) (.c (.int .i64 0))) (.bin .leq (.v 16) (.c (.int .i64 1048576))) (.c (.bool .false))))) (.c (.bool .true)) (.un .not (.ite (.bin .geq (.v 17) (.c (.int .i64 1))) (.bin .leq (.v 17) (.v 13)) (.c (.bool .false)))))) (.ite (.un .not (.ite (.un .not (.ite (.bin .geq (.v 18) (.c (.int .i64 0))) (.bin .leq (.v 18) (.c (.int .i64 400000))) (.c (.bool .false)))) (.c (.bool .true)) (.un .not (.ite (.bin .geq (.v 19) (.c (.int .i64 0))) (.bin .leq (.v 19) (.c (.int .i64 400000))) (.c (.bool .false)))))) (.c (.bool .true)) (.c (.bool .false))) (.c (.bool .false))) (.c (.bool .false))) (.c (.bool .false))) (.c (.bool .false))) (.c (.bool .false))) (.c (.bool .false)))) (.c (.bool .true)) (.un .not (.ite (.ite (.ite (.ite (.ite (.ite (.ite (.ite (.un .not (.ite (.bin .geq (.v 20) (.c (.int .i64 1))) (.bin .leq (.v 20) (.c (.int .i64 65536))) (.c (.bool .false)))) (.c (.bool .true)) (.un .not (.ite (.bin .geq (.v 21) (.c (.int .i64 1))) (.bin .leq (.v 21) (.v 20)) (.c (.bool .false))))) (.c (.bool .true)) (.un .not (.ite (.bin .geq (.v 22) (.c (.int .i64 1))) (.bin .leq (.v 22) (.c (.int .i64 1048576))) (.c (.bool .false))))) (.c (.bool .true)) (.un .not (.ite (.bin .geq (.v 23) (.c (.int .i64 1))) (.bin .leq (.v 23) (.c (.int .i64 16777216))) (.c (.bool .false))))) (.c (.bool .true)) (.un .not (.ite (.bin .geq (.v 24) (.c (.int .i64 1))) (.bin .leq (.v 24) (.c (.int .i64 1048576))) (.c (.bool .false))))) (.c (.bool .true)) (.bin .gtr (.v 25) (.v 26))) (.c (.bool .true)) (.un .not (.ite (.bin .geq (.v 25) (.un .neg (.c (.int .i64 1048576)))) (.bin .leq (.v 25) (.c (.int .i64 1048576))) (.c (.bool .false))))) (.c (.bool .true)) (.un .not (.ite (.bin .geq (.v 26) (.un .neg (.c (.int .i64 1048576)))) (.bin .leq (.v 26) (.c (.int .i64 1048576))) (.c (.bool .false))))) (.c (.bool .false)) (.ite (.ite (.ite (.ite (.ite (.ite (.ite (.ite (.un .not (.ite (.bin .geq (.v 27) (.c (.int .i64 1))) (.bin .leq (.v 27) (.c (.int .i64 65536))) (.c (.bool .false)))) (.c (.bool .true)) (.un .not (.ite (.bin .geq (.v 28) (.c (.int .i64 1))) (.bin .leq (.v 28) (.v 27)) (.c (.bool .false))))) (.c (.bool .true)) (.un .not (.ite (.bin .geq (.v 29) (.c (.int .i64 1))) (.bin .leq (.v 29) (.c (.int .i64 1048576))) (.c (.bool .false))))) (.c (.bool .true)) (.un .not (.ite (.bin .geq (.v 30) (.c (.int .i64 1))) (.bin .leq (.v 30) (.c (.int .i64 16777216))) (.c (.bool .false))))) (.c (.bool .true)) (.un .not (.ite (.bin .geq (.v 31) (.c (.int .i64 1))) (.bin .leq (.v 31) (.c (.int .i64 1048576))) (.c (.bool .false))))) (.c (.bool .true)) (.bin .gtr (.v 32) (.v 33))) (.c (.bool .true)) (.un .not (.ite (.bin .geq (.v 32) (.un .neg (.c (.int .i64 1048576)))) (.bin .leq (.v 32) (.c (.int .i64 1048576))) (.c (.bool .false))))) (.c (.bool .true)) (.un .not (.ite (.bin .geq (.v 33) (.un .neg (.c (.int .i64 1048576)))) (.bin .leq (.v 33) (.c (.int .i64 1048576))) (.c (.bool .false))))) (.c (.bool .false)) (.ite (.ite (.ite (.ite (.ite (.ite (.ite (.ite (.un .not (.ite (.bin .geq (.v 34) (.c (.int .i64 1))) (.bin .leq (.v 34) (.c (.int .i64 65536))) (.c (.bool .false)))) (.c (.bool .true)) (.un .not (.ite (.bin .geq (.v 35) (.c (.int .i64 1))) (.bin .leq (.v 35) (.v 34)) (.c (.bool .false))))) (.c (.bool .true)) (.un .not (.ite (.bin .geq (.v 36) (.c (.int .i64 1))) (.bin .leq (.v 36) (.c (.int .i64 1048576))) (.c (.bool .false))))) (.c (.bool .true)) (.un .not (.ite (.bin .geq (.v 37) (.c (.int .i64 1))) (.bin .leq (.v 37) (.c (.int .i64 16777216))) (.c (.bool .false))))) (.c (.bool .true)) (.un .not (.ite (.bin .geq (.v 38) (.c (.int .i64 1))) (.bin .leq (.v 38) (.c (.int .i64 1048576))) (.c (.bool .false))))) (.c (.bool .true)) (.bin .gtr (.v 39) (.v 40))) (.c (.bool .true)) (.un .not (.ite (.bin .geq (.v 39) (.un .neg (.c (.int .i64 1048576)))) (.bin .leq (.v 39) (.c (.int .i64 1048576))) (.c (.bool .false))))) (.c (.bool .true)) (.un .not (.ite (.bin .geq (.v 40) (.un .neg (.c (.int .i64 1048576)))) (.bin .leq (.v 40) (.c (.int .i64 1048576))) (.c (.bool .false))))) (.c (.bool .false)) (.ite (.ite (.ite (.ite (.ite (.ite (.ite (.ite (.un .not (.ite (.bin .geq (.v 41) (.c (.int .i64 1))) (.bin .leq (.v 41) (.c (.int .i64 65536))) (.c (.bool .false)))) (.c (.bool .true)) (.un .not (.ite (.bin .geq (.v 42) (.c (.int .i64 1))) (.bin .leq (.v 42) (.v 41)) (.c (.bool .false))))) (.c (.bool .true)) (.un .not (.ite (.bin .geq (.v 43) (.c (.int .i64 1))) (.bin .leq (.v 43) (.c (.int .i64 1048576))) (.c (.bool .false))))) (.c (.bool .true)) (.un .not (.ite (.bin .geq (.v 44) (.c (.int .i64 1))) (.bin .leq (.v 44) (.c (.int .i64 16777216))) (.c (.bool .false))))) (.c (.bool .true)) (.un .not (.ite (.bin .geq (.v 45) (.c (.int .i64 1))) (.bin .leq (.v 45) (.c (.int .i64 1048576))) (.c (.bool .false))))) (.c (.bool .true)) (.bin .gtr (.v 46) (.v 47))) (.c (.bool .true)) (.un .not (.ite (.bin .geq (.v 46) (.un .neg (.c (.int .i64 1048576)))) (.bin .leq (.v 46) (.c (.int .i64 1048576))) (.c (.bool .false))))) (.c (.bool .true)) (.un .not (.ite (.bin .geq (.v 47) (.un .neg (.c (.int .i64 1048576)))) (.bin .leq (.v 47) (.c (.int .i64 1048576))) (.c (.bool .false))))) (.c (.bool .false)) (.ite (.bin .geq (.v 49) (.c (.int .i64 1))) (.bin .leq (.v 49) (.c (.int .i64 1048576))) (.c (.bool .false))))))))) (.c (.bool .true)) (.bin .lss (.bin .mul (.bin .mul (.v 0) (.v 0)) (.v 1)) (.bin .mul (.c (.int .i64 4)) (.v 12)))) (.c (.int .i64 1)) (.c (.int .i64 0))))⟩
theorem k5 : CtOk Tryz.prog 5 c5 := ctOk_of mixed t1ok ok5 (k := p5) (n := 200) (f := f5) (by decide +kernel)
theorem k6 : CtOk Tryz.prog 6 c5 := ctOk_of mixed t1ok ok6 (k := p6) (n := 200) (f := f6) (by decide +kernel)
def c7 : Ct := ⟨[], [], .w (.c (.bool true))⟩
theorem k7 : CtOk Tryz.prog 7 c7 := ctOk_true ok7 works_pure
def t2 : List (P × Ct) := [(p5, c5), (p6, c5), (p7, c7)]
theorem t2ok : TbOk Tryz.prog (tbL t2) := tbL_cons k5 (tbL_cons k6 (tbL_cons k7 tbL_nil))
def c3 : Ct := ⟨[some 20, some 30], List.replicate 7 Ty.i ++ [.b] ++ List.replicate 12 .i ++ List.replicate 28 .i ++ [.b, .i], (.w (.ite (.bin .eql (.ite (.ite (.ite (.un .not (.ite (.un .not (.ite (.un .not (.ite (.ite (.bin .geq (.v 0) (.c (.int .i64 32))) (.bin .leq (.v 0) (.c (.int .i64 1024))) (.c (.bool .false))) (.bin .eql (.bin .rem (.v 0) (.c (.int .i64 2))) (.c (.int .i64 0))) (.c (.bool .false)))) (.c (.bool .true)) (.un .not (.ite (.ite (.bin .geq (.v 1) (.c (.int .i64 4))) (.bin .leq (.v 1) (.c (.int .i64 1024))) (.c (.bool .false))) (.bin .eql (.bin .rem (.v 1) (.c (.int .i64 2))) (.c (.int .i64 0))) (.c (.bool .false)))))) (.ite (.un .not (.ite (.ite (.un .not (.ite (.bin .geq (.v 2) (.c (.int .i64 0))) (.bin .leq (.v 2) (.c (.int .i64 8))) (.c (.bool .false)))) (.c (.bool .true)) (.un .not (.ite (.bin .geq (.v 3) (.c (.int .i64 0))) (.bin .leq (.v 3) (.c (.int .i64 16))) (.c (.bool .false))))) (.c (.bool .true)) (.un .not (.ite (.bin .geq (.v 4) (.c (.int .i64 0))) (.bin .leq (.v 4) (.c (.int .i64 16))) (.c (.bool .false)))))) (.ite (.un .not (.ite (.un .not (.ite (.bin .geq (.v 5) (.c (.int .i64 0))) (.bin .leq (.v 5) (.c (.int .i64 3))) (.c (.bool .false)))) (.c (.bool .true)) (.un .not (.ite (.bin .geq (.v 6) (.c (.int .i64 1))) (.bin .leq (.v 6) (.c (.int .i64 64))) (.c (.bool .false)))))) (.ite (.un .not (.ite (.ite (.ite (.un .not (.ite (.bin .geq (.v 8) (.c (.int .i64 0))) (.bin .leq (.v 8) (.c (.int .i64 64))) (.c (.bool .false)))) (.c (.bool .true)) (.un .not (.ite (.bin .geq (.v 9) (.c (.int .i64 0))) (.bin .leq (.v 9) (.c (.int .i64 64))) (.c (.bool .false))))) (.c (.bool .true)) (.un .not (.ite (.bin .geq (.v 10) (.c (.int .i64 0))) (.bin .leq (.v 10) (.c (.int .i64 64))) (.c (.bool .false))))) (.c (.bool .true)) (.un .not (.ite (.bin .geq (.v 11) (.c (.int .i64 0))) (.bin .leq (.v 11) (.c (.int .i64 63))) (.c (.bool .false)))))) (.ite (.un .not (.ite (.un .not (.ite (.bin .geq (.v 12) (.c (.int .i64 1))) (.bin .leq (.v 12) (.c (.int .i64 1073741824))) (.c (.bool .false)))) (.c (.bool .true)) (.un .not (.ite (.bin .geq (.v 15) (.c (.int .i64 0))) (.bin .leq (.v 15) (.c (.int .i64 65536))) (.c (.bool .false)))))) (.ite (.un .not (.ite (.ite (.ite (.un .not (.ite (.bin .geq (.v 13) (.c (.int .i64 1))) (.bin .leq (.v 13) (.c (.int .i64 1048576))) (.c (.bool .false)))) (.c (.bool .true)) (.un .not (.ite (.bin .geq (.v 14) (.c (.int .i64 1))) (.bin .leq (.v 14) (.c (.int .i64 1048576))) (.c (.bool .false))))) (.c (.bool .true)) (.un .not (.ite (.bin .geq (.v 16) (.c (.int .i64 0))) (.bin .leq (.v 16) (.c (.int .i64 1048576))) (.c (.bool .false))))) (.c (.bool .true)) (.un .not (.ite (.bin .geq (.v 17) (.c (.int .i64 1))) (.bin .leq (.v 17) (.v 13)) (.c (.bool .false)))))) (.ite (.un .not (.ite (.un .not (.ite (.bin .geq (.v 18) (.c (.int .i64 0))) (.bin .leq (.v 18) (.c (.int .i64 400000))) (.c (.bool .false)))) (.c (.bool .true)) (.un .not (.ite (.bin .geq (.v 19) (.c (.int .i64 0))) (.bin .leq (.v 19) (.c (.int .i64 400000))) (.c (.bool .false)))))) (.c (.bool .true)) (.c (.bool .false))) (.c (.bool .false))) (.c (.bool .false))) (.c (.bool .false))) (.c (.bool .false))) (.c (.bool .false))) (.c (.bool .false)))) (.c (.bool .true)) (.un .not (.ite (.ite (.ite (.ite (.ite (.ite (.ite (.ite (.un .not (.ite (.bin .geq (.v 20) (.c (.int .i64 1))) (.bin .leq (.v 20) (.c (.int .i64 65536))) (.c (.bool .false)))) (.c (.bool .true)) (.un .not (.ite (.bin .geq (.v 21) (.c (.int .i64 1))) (.bin .leq (.v 21) (.v 20)) (.c (.bool .false))))) (.c (.bool .true)) (.un .not (.ite (.bin .geq (.v 22) (.c (.int .i64 1))) (.bin .leq (.v 22) (.c (.int .i64 1048576))) (.c (.bool .false))))) (.c (.bool .true)) (.un .not (.ite (.bin .geq (.v 23) (.c (.int .i64 1))) (.bin .leq (.v 23) (.c (.int .i64 16777216))) (.c (.bool .false))))) (.c (.bool .true)) (.un .not (.ite (.bin .geq (.v 24) (.c (.int .i64 1))) (.bin .leq (.v 24) (.c (.int .i64 1048576))) (.c (.bool .false))))) (.c (.bool .true)) (.bin .gtr (.v 25) (.v 26))) (.c (.bool .true)) (.un .not (.ite (.bin .geq (.v 25) (.un .neg (.c (.int .i64 1048576)))) (.bin .leq (.v 25) (.c (.int .i64 1048576))) (.c (.bool .false))))) (.c (.bool .true)) (.un .not (.ite (.bin .geq (.v 26) (.un .neg (.c (.int .i64 1048576)))) (.bin .leq (.v 26) (.c (.int .i64 1048576))) (.c (.bool .false))))) (.c (.bool .false)) (.ite (.ite (.ite (.ite (.ite (.ite (.ite (.ite (.un .not (.ite (.bin .geq (.v 27) (.c (.int .i64 1))) (.bin .leq (.v 27) (.c (.int .i64 65536))) (.c (.bool .false)))) (.c (.bool .true)) (.un .not (.ite (.bin .geq (.v 28) (.c (.int .i64 1))) (.bin .leq (.v 28) (.v 27)) (.c (.bool .false))))) (.c (.bool .true)) (.un .not (.ite (.bin .geq (.v 29) (.c (.int .i64 1))) (.bin .leq (.v 29) (.c (.int .i64 1048576))) (.c (.bool .false))))) (.c (.bool .true)) (.un .not (.ite (.bin .geq (.v 30) (.c (.int .i64 1))) (.bin .leq (.v 30) (.c (.int .i64 16777216))) (.c (.bool .false))))) (.c (.bool .true)) (.un .not (.ite (.bin .geq (.v 31) (.c (.int .i64 1))) (.bin .leq (.v 31) (.c (.int .i64 1048576))) (.c (.bool .false))))) (.c (.bool .true)) (.bin .gtr (.v 32) (.v 33))) (.c (.bool .true)) (.un .not (.ite (.bin .geq (.v 32) (.un .neg (.c (.int .i64 1048576)))) (.bin .leq (.v 32) (.c (.int .i64 1048576))) (.c (.bool .false))))) (.c (.bool .true)) (.un .not (.ite (.bin .geq (.v 33) (.un .neg (.c (.int .i64 1048576)))) (.bin .leq (.v 33) (.c (.int .i64 1048576))) (.c (.bool .false))))) (.c (.bool .false)) (.ite (.ite (.ite (.ite (.ite (.ite (.ite (.ite (.un .not (.ite (.bin .geq (.v 34) (.c (.int .i64 1))) (.bin .leq (.v 34) (.c (.int .i64 65536))) (.c (.bool .false)))) (.c (.bool .true)) (.un .not (.ite (.bin .geq (.v 35) (.c (.int .i64 1))) (.bin .leq (.v 35) (.v 34)) (.c (.bool .false))))) (.c (.bool .true)) (.un .not (.ite (.bin .geq (.v 36) (.c (.int .i64 1))) (.bin .leq (.v 36) (.c (.int .i64 1048576))) (.c (.bool .false))))) (.c (.bool .true)) (.un .not (.ite (.bin .geq (.v 37) (.c (.int .i64 1))) (.bin .leq (.v 37) (.c (.int .i64 16777216))) (.c (.bool .false))))) (.c (.bool .true)) (.un .not (.ite (.bin .geq (.v 38) (.c (.int .i64 1))) (.bin .leq (.v 38) (.c (.int .i64 1048576))) (.c (.bool .false))))) (.c (.bool .true)) (.bin .gtr (.v 39) (.v 40))) (.c (.bool .true)) (.un .not (.ite (.bin .geq (.v 39) (.un .neg (.c (.int .i64 1048576)))) (.bin .leq (.v 39) (.c (.int .i64 1048576))) (.c (.bool .false))))) (.c (.bool .true)) (.un .not (.ite (.bin .geq (.v 40) (.un .neg (.c (.int .i64 1048576)))) (.bin .leq (.v 40) (.c (.int .i64 1048576))) (.c (.bool .false))))) (.c (.bool .false)) (.ite (.ite (.ite (.ite (.ite (.ite (.ite (.ite (.un .not (.ite (.bin .geq (.v 41) (.c (.int .i64 1))) (.bin .leq (.v 41) (.c (.int .i64 65536))) (.c (.bool .false)))) (.c (.bool .true)) (.un .not (.ite (.bin .geq (.v 42) (.c (.int .i64 1))) (.bin .leq (.v 42) (.v 41)) (.c (.bool .false))))) (.c (.bool .true)) (.un .not (.ite (.bin .geq (.v 43) (.c (.int .i64 1))) (.bin .leq (.v 43) (.c (.int .i64 1048576))) (.c (.bool .false))))) (.c (.bool .true)) (.un .not (.ite (.bin .geq (.v 44) (.c (.int .i64 1))) (.bin .leq (.v 44) (.c (.int .i64 16777216))) (.c (.bool .false))))) (.c (.bool .true)) (.un .not (.ite (.bin .geq (.v 45) (.c (.int .i64 1))) (.bin .leq (.v 45) (.c (.int .i64 1048576))) (.c (.bool .false))))) (.c (.bool .true)) (.bin .gtr (.v 46) (.v 47))) (.c (.bool .true)) (.un .not (.ite (.bin .geq (.v 46) (.un .neg (.c (.int .i64 1048576)))) (.bin .leq (.v 46) (.c (.int .i64 1048576))) (.c (.bool .false))))) (.c (.bool .true)) (.un .not (.ite (.bin .geq (.v 47) (.un .neg (.c (.int .i64 1048576)))) (.bin .leq (.v 47) (.c (.int .i64 1048576))) (.c (.bool .false))))) (.c (.bool .false)) (.ite (.bin .geq (.v 49) (.c (.int .i64 1))) (.bin .leq (.v 49) (.c (.int .i64 1048576))) (.c (.bool .false))))))))) (.c (.bool .true)) (.bin .lss (.bin .mul (.bin .mul (.v 0) (.v 0)) (.v 1)) (.bin .mul (.c (.int .i64 4)) (.v 12)))) (.c (.int .i64 1)) (.c (.int .i64 0))) (.ite (.ite (.ite (.un .not (.ite (.un .not (.ite (.un .not (.ite (.ite (.bin .geq (.v 0) (.c (.int .i64 32))) (.bin .leq (.v 0) (.c (.int .i64 1024))) (.c (.bool .false))) (.bin .eql (.bin .rem (.v 0) (.c (.int .i64 2))) (.c (.int .i64 0))) (.c (.bool .false)))) (.c (.bool .true)) (.un .not (.ite (.ite (.bin .geq (.v 1) (.c (.int .i64 4))) (.bin .leq (.v 1) (.c (.int .i64 1024))) (.c (.bool .false))) (.bin .eql (.bin .rem (.v 1) (.c (.int .i64 2))) (.c (.int .i64 0))) (.c (.bool .false)))))) (.ite (.un .not (.ite (.ite (.un .not (.ite (.bin .geq (.v 2) (.c (.int .i64 0))) (.bin .leq (.v 2) (.c (.int .i64 8))) (.c (.bool .false)))) (.c (.bool .true)) (.un .not (.ite (.bin .geq (.v 3) (.c (.int .i64 0))) (.bin .leq (.v 3) (.c (.int .i64 16))) (.c (.bool .false))))) (.c (.bool .true)) (.un .not (.ite (.bin .geq (.v 4) (.c (.int .i64 0))) (.bin .leq (.v 4) (.c (.int .i64 16))) (.c (.bool .false)))))) (.ite (.un .not (.ite (.un .not (.ite (.bin .geq (.v 5) (.c (.int .i64 0))) (.bin .leq (.v 5) (.c (.int .i64 3))) (.c (.bool .false)))) (.c (.bool .true)) (.un .not (.ite (.bin .geq (.v 6) (.c (.int .i64 1))) (.bin .leq (.v 6) (.c (.int .i64 64))) (.c (.bool .false)))))) (.ite (.un .not (.ite (.ite (.ite (.un .not (.ite (.bin .geq (.v 8) (.c (.int .i64 0))) (.bin .leq (.v 8) (.c (.int .i64 64))) (.c (.bool .false)))) (.c (.bool .true)) (.un .not (.ite (.bin .geq (.v 9) (.c (.int .i64 0))) (.bin .leq (.v 9) (.c (.int .i64 64))) (.c (.bool .false))))) (.c (.bool .true)) (.un .not (.ite (.bin .geq (.v 10) (.c (.int .i64 0))) (.bin .leq (.v 10) (.c (.int .i64 64))) (.c (.bool .false))))) (.c (.bool .true)) (.un .not (.ite (.bin .geq (.v 11) (.c (.int .i64 0))) (.bin .leq (.v 11) (.c (.int .i64 63))) (.c (.bool .false)))))) (.ite (.un .not (.ite (.un .not (.ite (.bin .geq (.v 12) (.c (.int .i64 1))) (.bin .leq (.v 12) (.c (.int .i64 1073741824))) (.c (.bool .false)))) (.c (.bool .true)) (.un .not (.ite (.bin .geq (.v 15) (.c (.int .i64 0))) (.bin .leq (.v 15) (.c (.int .i64 65536))) (.c (.bool .false)))))) (.ite (.un .not (.ite (.ite (.ite (.un .not (.ite (.bin .geq (.v 13) (.c (.int .i64 1))) (.bin .leq (.v 13) (.c (.int .i64 1048576))) (.c (.bool .false)))) (.c (.bool .true)) (.un .not (.ite (.bin .geq (.v 14) (.c (.int .i64 1))) (.bin .leq (.v 14) (.c (.int .i64 1048576))) (.c (.bool .false))))) (.c (.bool .true)) (.un .not (.ite (.bin .geq (.v 16) (.c (.int .i64 0))) (.bin .leq (.v 16) (.c (.int .i64 1048576))) (.c (.bool .false))))) (.c (.bool .true)) (.un .not (.ite (.bin .geq (.v 17) (.c (.int .i64 1))) (.bin .leq (.v 17) (.v 13)) (.c (.bool .false)))))) (.ite (.un .not (.ite (.un .not (.ite (.bin .geq (.v 18) (.c (.int .i64 0))) (.bin .leq (.v 18) (.c (.int .i64 400000))) (.c (.bool .false)))) (.c (.bool .true)) (.un .not (.ite (.bin .geq (.v 19) (.c (.int .i64 0))) (.bin .leq (.v 19) (.c (.int .i64 400000))) (.c (.bool .false)))))) (.c (.bool .true)) (.c (.bool .false))) (.c (.bool .false))) (.c (.bool .false))) (.c (.bool .false))) (.c (.bool .false))) (.c (.bool .false))) (.c (.bool .false)))) (.c (.bool .true)) (.un .not (.ite (.ite (.ite (.ite (.ite (.ite (.ite (.ite (.un .not (.ite (.bin .geq (.v 20) (.c (.int .i64 1))) (.bin .leq (.v 20) (.c (.int .i64 65536))) (.c (.bool .false)))) (.c (.bool .true)) (.un .not (.ite (.bin .geq (.v 21) (.c (.int .i64 1))) (.bin .leq (.v 21) (.v 20)) (.c (.bool .false))))) (.c (.bool .true)) (.un .not (.ite (.bin .geq (.v 22) (.c (.int .i64 1))) (.bin .leq (.v 22) (.c (.int .i64 1048576))) (.c (.bool .false))))) (.c (.bool .true)) (.un .not (.ite (.bin .geq (.v 23) (.c (.int .i64 1))) (.bin .leq (.v 23) (.c (.int .i64 16777216))) (.c (.bool .false))))) (.c (.bool .true)) (.un .not (.ite (.bin .geq (.v 24) (.c (.int .i64 1))) (.bin .leq (.v 24) (.c (.int .i64 1048576))) (.c (.bool .false))))) (.c (.bool .true)) (.bin .gtr (.v 25) (.v 26))) (.c (.bool .true)) (.un .not (.ite (.bin .geq (.v 25) (.un .neg (.c (.int .i64 1048576)))) (.bin .leq (.v 25) (.c (.int .i64 1048576))) (.c (.bool .false))))) (.c (.bool .true)) (.un .not (.ite (.bin .geq (.v 26) (.un .neg (.c (.int .i64 1048576)))) (.bin .leq (.v 26) (.c (.int .i64 1048576))) (.c (.bool .false))))) (.c (.bool .false)) (.ite (.ite (.ite (.ite (.ite (.ite (.ite (.ite (.un .not (.ite (.bin .geq (.v 27) (.c (.int .i64 1))) (.bin .leq (.v 27) (.c (.int .i64 65536))) (.c (.bool .false)))) (.c (.bool .true)) (.un .not (.ite (.bin .geq (.v 28) (.c (.int .i64 1))) (.bin .leq (.v 28) (.v 27)) (.c (.bool .false))))) (.c (.bool .true)) (.un .not (.ite (.bin .geq (.v 29) (.c (.int .i64 1))) (.bin .leq (.v 29) (.c (.int .i64 1048576))) (.c (.bool .false))))) (.c (.bool .true)) (.un .not (.ite (.bin .geq (.v 30) (.c (.int .i64 1))) (.bin .leq (.v 30) (.c (.int .i64 16777216))) (.c (.bool .false))))) (.c (.bool .true)) (.un .not (.ite (.bin .geq (.v 31) (.c (.int .i64 1))) (.bin .leq (.v 31) (.c (.int .i64 1048576))) (.c (.bool .false))))) (.c (.bool .true)) (.bin .gtr (.v 32) (.v 33))) (.c (.bool .true)) (.un .not (.ite (.bin .geq (.v 32) (.un .neg (.c (.int .i64 1048576)))) (.bin .leq (.v 32) (.c (.int .i64 1048576))) (.c (.bool .false))))) (.c (.bool .true)) (.un .not (.ite (.bin .geq (.v 33) (.un .neg (.c (.int .i64 1048576)))) (.bin .leq (.v 33) (.c (.int .i64 1048576))) (.c (.bool .false))))) (.c (.bool .false)) (.ite (.ite (.ite (.ite (.ite (.ite (.ite (.ite (.un .not (.ite (.bin .geq (.v 34) (.c (.int .i64 1))) (.bin .leq (.v 34) (.c (.int .i64 65536))) (.c (.bool .false)))) (.c (.bool .true)) (.un .not (.ite (.bin .geq (.v 35) (.c (.int .i64 1))) (.bin .leq (.v 35) (.v 34)) (.c (.bool .false))))) (.c (.bool .true)) (.un .not (.ite (.bin .geq (.v 36) (.c (.int .i64 1))) (.bin .leq (.v 36) (.c (.int .i64 1048576))) (.c (.bool .false))))) (.c (.bool .true)) (.un .not (.ite (.bin .geq (.v 37) (.c (.int .i64 1))) (.bin .leq (.v 37) (.c (.int .i64 16777216))) (.c (.bool .false))))) (.c (.bool .true)) (.un .not (.ite (.bin .geq (.v 38) (.c (.int .i64 1))) (.bin .leq (.v 38) (.c (.int .i64 1048576))) (.c (.bool .false))))) (.c (.bool .true)) (.bin .gtr (.v 39) (.v 40))) (.c (.bool .true)) (.un .not (.ite (.bin .geq (.v 39) (.un .neg (.c (.int .i64 1048576)))) (.bin .leq (.v 39) (.c (.int .i64 1048576))) (.c (.bool .false))))) (.c (.bool .true)) (.un .not (.ite (.bin .geq (.v 40) (.un .neg (.c (.int .i64 1048576)))) (.bin .leq (.v 40) (.c (.int .i64 1048576))) (.c (.bool .false))))) (.c (.bool .false)) (.ite (.ite (.ite (.ite (.ite (.ite (.ite (.ite (.un .not (.ite (.bin .geq (.v 41) (.c (.int .i64 1))) (.bin .leq (.v 41) (.c (.int .i64 65536))) (.c (.bool .false)))) (.c (.bool .true)) (.un .not (.ite (.bin .geq (.v 42) (.c (.int .i64 1))) (.bin .leq (.v 42) (.v 41)) (.c (.bool .false))))) (.c (.bool .true)) (.un .not (.ite (.bin .geq (.v 43) (.c (.int .i64 1))) (.bin .leq (.v 43) (.c (.int .i64 1048576))) (.c (.bool .false))))) (.c (.bool .true)) (.un .not (.ite (.bin .geq (.v 44) (.c (.int .i64 1))) (.bin .leq (.v 44) (.c (.int .i64 16777216))) (.c (.bool .false))))) (.c (.bool .true)) (.un .not (.ite (.bin .geq (.v 45) (.c (.int .i64 1))) (.bin .leq (.v 45) (.c (.int .i64 1048576))) (.c (.bool .false))))) (.c (.bool .true)) (.bin .gtr (.v 46) (.v 47))) (.c (.bool .true)) (.un .not (.ite (.bin .geq (.v 46) (.un .neg (.c (.int .i64 1048576)))) (.bin .leq (.v 46) (.c (.int .i64 1048576))) (.c (.bool .false))))) (.c (.bool .true)) (.un .not (.ite (.bin .geq (.v 47) (.un .neg (.c (.int .i64 1048576)))) (.bin .leq (.v 47) (.c (.int .i64 1048576))) (.c (.bool .false))))) (.c (.bool .false)) (.ite (.bin .geq (.v 49) (.c (.int .i64 1))) (.bin .leq (.v 49) (.c (.int .i64 1048576))) (.c (.bool .false))))))))) (.c (.bool .true)) (.bin .lss (.bin .mul (.bin .mul (.v 0) (.v 0)) (.v 1)) (.bin .mul (.c (.int .i64 4)) (.v 12)))) (.c (.int .i64 1)) (.c (.int .i64 0)))) (.c (.bool .true)) (.c (.bool .false))))⟩
theorem k3 : CtOk Tryz.prog 3 c3 := ctOk_of mixed t2ok ok3 (k := p3) (n := 200) (f := f3) (by decide +kernel)
end Go.Am.Pz
namespace Go.Am
open Go.RowKit
set_option autoImplicit false
set_option linter.unusedSimpArgs false
set_option linter.unusedVariables false
/-! types of whole numbers and bools alone: how they are read as data -/
noncomputable def flatFs (P : Program) (r : TypeId → Option (List Ty)) : List Field → Nat → Option (List Ty)
  | [], _ => some []
  | f :: fs, off => bif f.offset == off then bnd (r f.type) fun ts => bif ts.length == P.cellsOf f.type then bnd (flatFs P r fs (off + ts.length)) fun us => some (ts ++ us) else none else none
def repT (ts : List Ty) : Nat → List Ty
  | 0 => []
  | n + 1 => repT ts n ++ ts
noncomputable def flatTy (P : Program) : Nat → TypeId → Option (List Ty)
  | 0, _ => none
  | n + 1, t => match P.underlying t with
    | some .bool => some [.b]
    | some (.int .i64) => some [.i]
    | some (.struct fs) => bnd (flatFs P (flatTy P n) fs.toList 0) fun ts => bif ts.length == P.cellsOf t then some ts else none
    | some (.array m e) => bnd (flatTy P n e) fun ts => bif ts.length == P.cellsOf e && m * ts.length == P.cellsOf t then some (repT ts m) else none
    | _ => none
theorem allT_append : ∀ {ts us : List Ty} {ws vs : List W}, allT ts ws = true → allT us vs = true → allT (ts ++ us) (ws ++ vs) = true
  | [], us, [], vs, _, h => h
  | t :: ts, us, w :: ws, vs, h, h' => by
    simp only [allT, Bool.and_eq_true, List.cons_append] at h ⊢
    exact ⟨h.1, allT_append h.2 h'⟩
  | [], _, _ :: _, _, h, _ => by cases h
  | _ :: _, _, [], _, h, _ => by cases h
section
variable {H : Type} {enc : TypeId × Value → H} {P : Program}
/-- what a reading of a plain type says -/
def FlatOk (enc : TypeId × Value → H) (P : Program) (ts : List Ty) (t : TypeId) : Prop :=
  ∀ (w : World) (base : Nat) (sp : Nat → Bool) (hd : Bool) (fuel : Nat) (cs : List Value) (x : DataW H × List MemPlace), DataW.trod enc P w base sp hd fuel t cs = some x →
    x.2 = [] ∧ (∃ ws, allT ts ws = true ∧ cs = ws.map valW) ∧ ∀ w' base' sp' hd', DataW.trod enc P w' base' sp' hd' fuel t cs = some x
theorem flat_some {l : List Value} {n : Nat} {ts us : List Ty} (k : Nat) (hk : ts.length = k) (h1 : ∃ ws, allT ts ws = true ∧ (l.drop n).take k = ws.map valW) (h2 : ∃ ws, allT us ws = true ∧ (l.drop (n + k)).take us.length = ws.map valW) :
    ∃ ws, allT (ts ++ us) ws = true ∧ (l.drop n).take (ts ++ us).length = ws.map valW := by
  obtain ⟨a, a1, a2⟩ := h1
  obtain ⟨b, b1, b2⟩ := h2
  refine ⟨a ++ b, allT_append a1 b1, ?_⟩
  rw [List.length_append, hk, List.take_add, List.drop_drop, a2, b2, List.map_append]
theorem flatFs_ok {r : TypeId → Option (List Ty)} (hr : ∀ t ts, r t = some ts → FlatOk enc P ts t) {w : World} {base : Nat} {sp : Nat → Bool} {hd : Bool} {m : Nat} {cs : List Value} :
    ∀ {fs : List Field} {off : Nat} {ts : List Ty}, flatFs P r fs off = some ts → (∀ f ∈ fs, ∃ x, DataW.trod enc P w base sp hd m f.type ((cs.drop f.offset).take (P.cellsOf f.type)) = some x) →
      (∃ ws, allT ts ws = true ∧ (cs.drop off).take ts.length = ws.map valW) ∧
      ∀ f ∈ fs, ∀ x, DataW.trod enc P w base sp hd m f.type ((cs.drop f.offset).take (P.cellsOf f.type)) = some x → x.2 = [] ∧ ∀ w' base' sp' hd', DataW.trod enc P w' base' sp' hd' m f.type ((cs.drop f.offset).take (P.cellsOf f.type)) = some x
  | [], off, ts, h, hf => by
    cases h
    exact ⟨⟨[], rfl, by simp⟩, fun f hf => by cases hf⟩
  | f :: fs, off, ts, h, hf => by
    obtain ⟨h1, h2⟩ := bif_none.1 h
    obtain ⟨t1, h3, h4⟩ := bnd_eq.1 h2
    obtain ⟨h5, h6⟩ := bif_none.1 h4
    obtain ⟨t2, h7, h8⟩ := bnd_eq.1 h6
    cases h8
    have h1 : f.offset = off := by simpa using h1
    have h5 : t1.length = P.cellsOf f.type := by simpa using h5
    obtain ⟨x, hx⟩ := hf f (List.mem_cons_self ..)
    obtain ⟨e1, e2, e3⟩ := hr _ _ h3 w base sp hd m _ x hx
    obtain ⟨g1, g2⟩ := flatFs_ok hr h7 fun f hf' => hf f (List.mem_cons_of_mem _ hf')
    refine ⟨flat_some (P.cellsOf f.type) h5 (by rw [h1] at e2; exact e2) (by rw [h5] at g1; exact g1), fun f' hf' y hy => ?_⟩
    rcases List.mem_cons.1 hf' with rfl | hf'
    · rw [hx] at hy; cases hy; exact ⟨e1, e3⟩
    · exact g2 f' hf' y hy
theorem flat_rep {ts : List Ty} {c : Nat} (hc : ts.length = c) {cs : List Value} : ∀ {m : Nat}, (∀ i, i < m → ∃ ws, allT ts ws = true ∧ (cs.drop (i * c)).take c = ws.map valW) → ∃ ws, allT (repT ts m) ws = true ∧ cs.take (m * c) = ws.map valW
  | 0, _ => ⟨[], rfl, by simp⟩
  | m + 1, h => by
    obtain ⟨a, a1, a2⟩ := flat_rep (m := m) hc fun i hi => h i (by omega)
    obtain ⟨b, b1, b2⟩ := h m (by omega)
    refine ⟨a ++ b, allT_append a1 b1, ?_⟩
    rw [Nat.succ_mul, List.take_add, a2, b2, List.map_append]
theorem mapM_cg {α β : Type} {f g : α → Option β} : ∀ {l : List α}, (∀ x ∈ l, f x = g x) → l.mapM f = l.mapM g
  | [], _ => rfl
  | x :: l, h => by rw [List.mapM_cons, List.mapM_cons, h x (List.mem_cons_self ..), mapM_cg fun y hy => h y (List.mem_cons_of_mem _ hy)]
theorem flatMap_nil {α β : Type} {f : α → List β} : ∀ {l : List α}, (∀ x ∈ l, f x = []) → l.flatMap f = []
  | [], _ => rfl
  | x :: l, h => by rw [List.flatMap_cons, h x (List.mem_cons_self ..), flatMap_nil fun y hy => h y (List.mem_cons_of_mem _ hy)]; rfl
theorem flat_ok : ∀ (n : Nat) (t : TypeId) (ts : List Ty), flatTy P n t = some ts → FlatOk enc P ts t
  | 0, t, ts, h => by cases h
  | n + 1, t, ts, h => by
    intro w base sp hd fuel cs x hx
    unfold flatTy at h
    split at h
    · rename_i ht
      cases h
      obtain ⟨b, rfl, rfl⟩ := DataW.trod_bool ht hx
      refine ⟨rfl, ⟨[.bool b], rfl, rfl⟩, fun w' base' sp' hd' => ?_⟩
      cases fuel with
      | zero => cases hx
      | succ m => simp [DataW.trod, ht]
    · rename_i ht
      cases h
      obtain ⟨z, hz, hxx, hwf⟩ := DataW.trod_int ht hx
      subst hz; subst hxx
      refine ⟨rfl, ⟨[.int .i64 z], rfl, rfl⟩, fun w' base' sp' hd' => ?_⟩
      cases fuel with
      | zero => cases hx
      | succ m => simp [DataW.trod, ht, hwf]
    · rename_i fs ht
      obtain ⟨us, h1, h2⟩ := bnd_eq.1 h
      obtain ⟨h3, h4⟩ := bif_none.1 h2
      cases h4
      obtain ⟨xs, m, rfl, hxx, hl, hxl, hp⟩ := DataW.trod_struct ht hx
      have hsome : ∀ f ∈ fs.toList, ∃ y, y ∈ xs ∧ DataW.trod enc P w base sp hd m f.type ((cs.drop f.offset).take (P.cellsOf f.type)) = some y := by
        intro f hf
        obtain ⟨i, hi, e⟩ := List.getElem_of_mem hf
        have hi' : i < fs.size := by simpa using hi
        have e' : fs[i]? = some f := by rw [Array.getElem?_eq_getElem hi']; simpa using e
        have := hp i f e'
        rw [List.getElem?_eq_getElem (by omega)] at this
        exact ⟨_, List.getElem_mem _, this⟩
      obtain ⟨⟨ws, g1, g2⟩, g3⟩ := flatFs_ok (fun t ts h => flat_ok n t ts h) h1 fun f hf => let ⟨y, _, e⟩ := hsome f hf; ⟨y, e⟩
      have h3 : ts.length = P.cellsOf t := by simpa using h3
      have hps : ∀ y ∈ xs, y.2 = [] := by
        intro y hy
        obtain ⟨i, hi, e⟩ := List.getElem_of_mem hy
        have hi' : i < fs.size := by omega
        have := hp i fs[i] (Array.getElem?_eq_getElem hi')
        rw [List.getElem?_eq_getElem hi, e] at this
        exact (g3 fs[i] (by simp) y this).1
      subst hxx
      refine ⟨flatMap_nil hps, ⟨ws, g1, ?_⟩, fun w' base' sp' hd' => ?_⟩
      · rw [List.drop_zero, h3, ← hl, List.take_length] at g2; exact g2
      · have hm := hx
        simp only [DataW.trod, ht, if_pos hl] at hm ⊢
        rw [← hm]
        congr 1
        refine mapM_cg fun f hf => ?_
        obtain ⟨y, _, e⟩ := hsome f hf
        rw [e]
        exact (g3 f hf y e).2 w' base' sp' hd'
    · rename_i k e ht
      obtain ⟨us, h1, h2⟩ := bnd_eq.1 h
      obtain ⟨h3, h4⟩ := bif_none.1 h2
      cases h4
      rw [Bool.and_eq_true] at h3
      have h5 : us.length = P.cellsOf e := by simpa using h3.1
      have h6 : k * us.length = P.cellsOf t := by simpa using h3.2
      obtain ⟨xs, m, rfl, hxx, hl, hxl, hp⟩ := DataW.trod_array ht hx
      have ih := flat_ok n e us h1
      have hsome : ∀ i, i < k → ∃ y, DataW.trod enc P w base sp hd m e ((cs.drop (i * P.cellsOf e)).take (P.cellsOf e)) = some y := by
        intro i hi
        have := hp i hi
        rw [List.getElem?_eq_getElem (by omega)] at this
        exact ⟨_, this⟩
      obtain ⟨ws, g1, g2⟩ := flat_rep (cs := cs) (m := k) h5 fun i hi => let ⟨y, hy⟩ := hsome i hi; (ih w base sp hd m _ y hy).2.1
      have hps : ∀ y ∈ xs, y.2 = [] := by
        intro y hy
        obtain ⟨i, hi, e'⟩ := List.getElem_of_mem hy
        have := hp i (by omega)
        rw [List.getElem?_eq_getElem hi, e'] at this
        exact (ih w base sp hd m _ y this).1
      subst hxx
      refine ⟨flatMap_nil hps, ⟨ws, g1, ?_⟩, fun w' base' sp' hd' => ?_⟩
      · rw [← h5, h6, ← hl, List.take_length] at g2; exact g2
      · have hm := hx
        simp only [DataW.trod, ht, if_pos hl] at hm ⊢
        rw [← hm]
        congr 1
        refine mapM_cg fun i hi => ?_
        obtain ⟨y, e'⟩ := hsome i (by simpa using hi)
        rw [e']
        exact (ih w base sp hd m _ y e').2.2 w' base' sp' hd'
    · cases h
end
end Go.Am
