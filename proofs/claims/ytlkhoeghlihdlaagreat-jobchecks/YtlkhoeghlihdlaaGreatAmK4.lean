import Derived.Test.YtlkhoeghlihdlaaGreatAmDrw3
import Derived.Test.YtlkhoeghlihdlaaGreatAmP0
import Derived.Test.YtlkhoeghlihdlaaGreatAmP1
import Derived.Test.YtlkhoeghlihdlaaGreatAmP2
import Derived.Test.YtlkhoeghlihdlaaGreatProg
namespace Go.Am.Pz
open Go.Am Go.Proofs
set_option maxRecDepth 1000000
theorem ok5 : okF okDr Tryz.prog 5 f5 = true := by decide +kernel
theorem ok11 : okF okDr Tryz.prog 11 f11 = true := by decide +kernel
theorem ok12 : okF okDr Tryz.prog 12 f12 = true := by decide +kernel
theorem ok14 : okF okDr Tryz.prog 14 f14 = true := by decide +kernel
theorem ok15 : okF okDr Tryz.prog 15 f15 = true := by decide +kernel
theorem ok22 : okF okDr Tryz.prog 22 f22 = true := by decide +kernel
theorem ok36 : okF okDr Tryz.prog 36 f36 = true := by decide +kernel
theorem ok37 : okF okDr Tryz.prog 37 f37 = true := by decide +kernel
theorem ok41 : okF okDr Tryz.prog 41 f41 = true := by decide +kernel
theorem ok44 : okF okDr Tryz.prog 44 f44 = true := by decide +kernel
theorem ok46 : okF okDr Tryz.prog 46 f46 = true := by decide +kernel
theorem ok47 : okF okDr Tryz.prog 47 f47 = true := by decide +kernel
theorem ok50 : okF okDr Tryz.prog 50 f50 = true := by decide +kernel
theorem ok53 : okF okDr Tryz.prog 53 f53 = true := by decide +kernel
theorem ok76 : okF okDr Tryz.prog 76 f76 = true := by decide +kernel
theorem ok98 : okF okDr Tryz.prog 98 f98 = true := by decide +kernel
theorem ok106 : okF okDr Tryz.prog 106 f106 = true := by decide +kernel
theorem ok126 : okF okDr Tryz.prog 126 f126 = true := by decide +kernel
theorem ok135 : okF okDr Tryz.prog 135 f135 = true := by decide +kernel
theorem ok136 : okF okDr Tryz.prog 136 f136 = true := by decide +kernel
theorem ok149 : okF okDr Tryz.prog 149 f149 = true := by decide +kernel
theorem ok164 : okF okDr Tryz.prog 164 f164 = true := by decide +kernel
theorem ok211 : okF okDr Tryz.prog 211 f211 = true := by decide +kernel
theorem ok255 : okF okDr Tryz.prog 255 f255 = true := by decide +kernel
theorem ok288 : okF okDr Tryz.prog 288 f288 = true := by decide +kernel
theorem ok290 : okF okDr Tryz.prog 290 f290 = true := by decide +kernel
theorem ok297 : okF okDr Tryz.prog 297 f297 = true := by decide +kernel
theorem ok304 : okF okDr Tryz.prog 304 f304 = true := by decide +kernel
theorem ok316 : okF okDr Tryz.prog 316 f316 = true := by decide +kernel
theorem ok347 : okF okDr Tryz.prog 347 f347 = true := by decide +kernel
end Go.Am.Pz
namespace Go.Am.Pz
open Go.Am Go.Proofs
set_option maxRecDepth 1000000
theorem ok20 : okF okDr Tryz.prog 20 f20 = true := by decide +kernel
theorem ok31 : okF okDr Tryz.prog 31 f31 = true := by decide +kernel
theorem ok58 : okF okDr Tryz.prog 58 f58 = true := by decide +kernel
theorem ok62 : okF okDr Tryz.prog 62 f62 = true := by decide +kernel
theorem ok64 : okF okDr Tryz.prog 64 f64 = true := by decide +kernel
theorem ok70 : okF okDr Tryz.prog 70 f70 = true := by decide +kernel
theorem ok93 : okF okDr Tryz.prog 93 f93 = true := by decide +kernel
theorem ok112 : okF okDr Tryz.prog 112 f112 = true := by decide +kernel
theorem ok113 : okF okDr Tryz.prog 113 f113 = true := by decide +kernel
theorem ok116 : okF okDr Tryz.prog 116 f116 = true := by decide +kernel
theorem ok141 : okF okDr Tryz.prog 141 f141 = true := by decide +kernel
theorem ok146 : okF okDr Tryz.prog 146 f146 = true := by decide +kernel
theorem ok180 : okF okDr Tryz.prog 180 f180 = true := by decide +kernel
theorem ok186 : okF okDr Tryz.prog 186 f186 = true := by decide +kernel
theorem ok190 : okF okDr Tryz.prog 190 f190 = true := by decide +kernel
theorem ok195 : okF okDr Tryz.prog 195 f195 = true := by decide +kernel
theorem ok204 : okF okDr Tryz.prog 204 f204 = true := by decide +kernel
theorem ok217 : okF okDr Tryz.prog 217 f217 = true := by decide +kernel
theorem ok224 : okF okDr Tryz.prog 224 f224 = true := by decide +kernel
theorem ok228 : okF okDr Tryz.prog 228 f228 = true := by decide +kernel
theorem ok233 : okF okDr Tryz.prog 233 f233 = true := by decide +kernel
theorem ok258 : okF okDr Tryz.prog 258 f258 = true := by decide +kernel
theorem ok283 : okF okDr Tryz.prog 283 f283 = true := by decide +kernel
theorem ok285 : okF okDr Tryz.prog 285 f285 = true := by decide +kernel
theorem ok296 : okF okDr Tryz.prog 296 f296 = true := by decide +kernel
theorem ok298 : okF okDr Tryz.prog 298 f298 = true := by decide +kernel
theorem ok367 : okF okDr Tryz.prog 367 f367 = true := by decide +kernel
theorem ok375 : okF okDr Tryz.prog 375 f375 = true := by decide +kernel
theorem ok377 : okF okDr Tryz.prog 377 f377 = true := by decide +kernel
end Go.Am.Pz
