import Derived.Test.YtlkhoeghlihdlaaGreatAmDrw3
import Derived.Test.YtlkhoeghlihdlaaGreatAmP0
import Derived.Test.YtlkhoeghlihdlaaGreatAmP1
import Derived.Test.YtlkhoeghlihdlaaGreatAmP2
import Derived.Test.YtlkhoeghlihdlaaGreatProg
namespace Go.Am.Pz
open Go.Am Go.Proofs
set_option maxRecDepth 1000000
theorem ok7 : okF okDr Tryz.prog 7 f7 = true := by decide +kernel
theorem ok9 : okF okDr Tryz.prog 9 f9 = true := by decide +kernel
theorem ok29 : okF okDr Tryz.prog 29 f29 = true := by decide +kernel
theorem ok32 : okF okDr Tryz.prog 32 f32 = true := by decide +kernel
theorem ok33 : okF okDr Tryz.prog 33 f33 = true := by decide +kernel
theorem ok35 : okF okDr Tryz.prog 35 f35 = true := by decide +kernel
theorem ok39 : okF okDr Tryz.prog 39 f39 = true := by decide +kernel
theorem ok74 : okF okDr Tryz.prog 74 f74 = true := by decide +kernel
theorem ok83 : okF okDr Tryz.prog 83 f83 = true := by decide +kernel
theorem ok95 : okF okDr Tryz.prog 95 f95 = true := by decide +kernel
theorem ok96 : okF okDr Tryz.prog 96 f96 = true := by decide +kernel
theorem ok97 : okF okDr Tryz.prog 97 f97 = true := by decide +kernel
theorem ok105 : okF okDr Tryz.prog 105 f105 = true := by decide +kernel
theorem ok107 : okF okDr Tryz.prog 107 f107 = true := by decide +kernel
theorem ok117 : okF okDr Tryz.prog 117 f117 = true := by decide +kernel
theorem ok134 : okF okDr Tryz.prog 134 f134 = true := by decide +kernel
theorem ok137 : okF okDr Tryz.prog 137 f137 = true := by decide +kernel
theorem ok148 : okF okDr Tryz.prog 148 f148 = true := by decide +kernel
theorem ok157 : okF okDr Tryz.prog 157 f157 = true := by decide +kernel
theorem ok159 : okF okDr Tryz.prog 159 f159 = true := by decide +kernel
theorem ok194 : okF okDr Tryz.prog 194 f194 = true := by decide +kernel
theorem ok210 : okF okDr Tryz.prog 210 f210 = true := by decide +kernel
theorem ok218 : okF okDr Tryz.prog 218 f218 = true := by decide +kernel
theorem ok227 : okF okDr Tryz.prog 227 f227 = true := by decide +kernel
theorem ok257 : okF okDr Tryz.prog 257 f257 = true := by decide +kernel
theorem ok263 : okF okDr Tryz.prog 263 f263 = true := by decide +kernel
theorem ok280 : okF okDr Tryz.prog 280 f280 = true := by decide +kernel
theorem ok295 : okF okDr Tryz.prog 295 f295 = true := by decide +kernel
theorem ok389 : okF okDr Tryz.prog 389 f389 = true := by decide +kernel
end Go.Am.Pz
namespace Go.Am.Pz
open Go.Am Go.Proofs
set_option maxRecDepth 1000000
theorem ok17 : okF okDr Tryz.prog 17 f17 = true := by decide +kernel
theorem ok18 : okF okDr Tryz.prog 18 f18 = true := by decide +kernel
theorem ok21 : okF okDr Tryz.prog 21 f21 = true := by decide +kernel
theorem ok27 : okF okDr Tryz.prog 27 f27 = true := by decide +kernel
theorem ok48 : okF okDr Tryz.prog 48 f48 = true := by decide +kernel
theorem ok49 : okF okDr Tryz.prog 49 f49 = true := by decide +kernel
theorem ok65 : okF okDr Tryz.prog 65 f65 = true := by decide +kernel
theorem ok77 : okF okDr Tryz.prog 77 f77 = true := by decide +kernel
theorem ok84 : okF okDr Tryz.prog 84 f84 = true := by decide +kernel
theorem ok94 : okF okDr Tryz.prog 94 f94 = true := by decide +kernel
theorem ok100 : okF okDr Tryz.prog 100 f100 = true := by decide +kernel
theorem ok103 : okF okDr Tryz.prog 103 f103 = true := by decide +kernel
theorem ok104 : okF okDr Tryz.prog 104 f104 = true := by decide +kernel
theorem ok111 : okF okDr Tryz.prog 111 f111 = true := by decide +kernel
theorem ok140 : okF okDr Tryz.prog 140 f140 = true := by decide +kernel
theorem ok156 : okF okDr Tryz.prog 156 f156 = true := by decide +kernel
theorem ok165 : okF okDr Tryz.prog 165 f165 = true := by decide +kernel
theorem ok178 : okF okDr Tryz.prog 178 f178 = true := by decide +kernel
theorem ok185 : okF okDr Tryz.prog 185 f185 = true := by decide +kernel
theorem ok207 : okF okDr Tryz.prog 207 f207 = true := by decide +kernel
theorem ok243 : okF okDr Tryz.prog 243 f243 = true := by decide +kernel
theorem ok244 : okF okDr Tryz.prog 244 f244 = true := by decide +kernel
theorem ok248 : okF okDr Tryz.prog 248 f248 = true := by decide +kernel
theorem ok260 : okF okDr Tryz.prog 260 f260 = true := by decide +kernel
theorem ok284 : okF okDr Tryz.prog 284 f284 = true := by decide +kernel
theorem ok286 : okF okDr Tryz.prog 286 f286 = true := by decide +kernel
theorem ok302 : okF okDr Tryz.prog 302 f302 = true := by decide +kernel
theorem ok307 : okF okDr Tryz.prog 307 f307 = true := by decide +kernel
theorem ok340 : okF okDr Tryz.prog 340 f340 = true := by decide +kernel
theorem ok425 : okF okDr Tryz.prog 425 f425 = true := by decide +kernel
end Go.Am.Pz
