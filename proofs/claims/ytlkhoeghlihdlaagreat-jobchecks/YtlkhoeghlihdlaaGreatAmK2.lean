import Derived.Test.YtlkhoeghlihdlaaGreatAmDrw3
import Derived.Test.YtlkhoeghlihdlaaGreatAmP0
import Derived.Test.YtlkhoeghlihdlaaGreatAmP1
import Derived.Test.YtlkhoeghlihdlaaGreatAmP2
import Derived.Test.YtlkhoeghlihdlaaGreatProg
namespace Go.Am.Pz
open Go.Am Go.Proofs
set_option maxRecDepth 1000000
theorem ok13 : okF okDr Tryz.prog 13 f13 = true := by decide +kernel
theorem ok19 : okF okDr Tryz.prog 19 f19 = true := by decide +kernel
theorem ok28 : okF okDr Tryz.prog 28 f28 = true := by decide +kernel
theorem ok38 : okF okDr Tryz.prog 38 f38 = true := by decide +kernel
theorem ok43 : okF okDr Tryz.prog 43 f43 = true := by decide +kernel
theorem ok57 : okF okDr Tryz.prog 57 f57 = true := by decide +kernel
theorem ok63 : okF okDr Tryz.prog 63 f63 = true := by decide +kernel
theorem ok69 : okF okDr Tryz.prog 69 f69 = true := by decide +kernel
theorem ok71 : okF okDr Tryz.prog 71 f71 = true := by decide +kernel
theorem ok80 : okF okDr Tryz.prog 80 f80 = true := by decide +kernel
theorem ok101 : okF okDr Tryz.prog 101 f101 = true := by decide +kernel
theorem ok142 : okF okDr Tryz.prog 142 f142 = true := by decide +kernel
theorem ok145 : okF okDr Tryz.prog 145 f145 = true := by decide +kernel
theorem ok160 : okF okDr Tryz.prog 160 f160 = true := by decide +kernel
theorem ok181 : okF okDr Tryz.prog 181 f181 = true := by decide +kernel
theorem ok183 : okF okDr Tryz.prog 183 f183 = true := by decide +kernel
theorem ok187 : okF okDr Tryz.prog 187 f187 = true := by decide +kernel
theorem ok188 : okF okDr Tryz.prog 188 f188 = true := by decide +kernel
theorem ok197 : okF okDr Tryz.prog 197 f197 = true := by decide +kernel
theorem ok199 : okF okDr Tryz.prog 199 f199 = true := by decide +kernel
theorem ok212 : okF okDr Tryz.prog 212 f212 = true := by decide +kernel
theorem ok232 : okF okDr Tryz.prog 232 f232 = true := by decide +kernel
theorem ok249 : okF okDr Tryz.prog 249 f249 = true := by decide +kernel
theorem ok250 : okF okDr Tryz.prog 250 f250 = true := by decide +kernel
theorem ok253 : okF okDr Tryz.prog 253 f253 = true := by decide +kernel
theorem ok301 : okF okDr Tryz.prog 301 f301 = true := by decide +kernel
theorem ok306 : okF okDr Tryz.prog 306 f306 = true := by decide +kernel
theorem ok322 : okF okDr Tryz.prog 322 f322 = true := by decide +kernel
theorem ok339 : okF okDr Tryz.prog 339 f339 = true := by decide +kernel
theorem ok343 : okF okDr Tryz.prog 343 f343 = true := by decide +kernel
end Go.Am.Pz
namespace Go.Am.Pz
open Go.Am Go.Proofs
set_option maxRecDepth 1000000
theorem ok6 : okF okDr Tryz.prog 6 f6 = true := by decide +kernel
theorem ok16 : okF okDr Tryz.prog 16 f16 = true := by decide +kernel
theorem ok23 : okF okDr Tryz.prog 23 f23 = true := by decide +kernel
theorem ok66 : okF okDr Tryz.prog 66 f66 = true := by decide +kernel
theorem ok73 : okF okDr Tryz.prog 73 f73 = true := by decide +kernel
theorem ok78 : okF okDr Tryz.prog 78 f78 = true := by decide +kernel
theorem ok109 : okF okDr Tryz.prog 109 f109 = true := by decide +kernel
theorem ok110 : okF okDr Tryz.prog 110 f110 = true := by decide +kernel
theorem ok133 : okF okDr Tryz.prog 133 f133 = true := by decide +kernel
theorem ok147 : okF okDr Tryz.prog 147 f147 = true := by decide +kernel
theorem ok158 : okF okDr Tryz.prog 158 f158 = true := by decide +kernel
theorem ok168 : okF okDr Tryz.prog 168 f168 = true := by decide +kernel
theorem ok184 : okF okDr Tryz.prog 184 f184 = true := by decide +kernel
theorem ok189 : okF okDr Tryz.prog 189 f189 = true := by decide +kernel
theorem ok191 : okF okDr Tryz.prog 191 f191 = true := by decide +kernel
theorem ok193 : okF okDr Tryz.prog 193 f193 = true := by decide +kernel
theorem ok198 : okF okDr Tryz.prog 198 f198 = true := by decide +kernel
theorem ok214 : okF okDr Tryz.prog 214 f214 = true := by decide +kernel
theorem ok215 : okF okDr Tryz.prog 215 f215 = true := by decide +kernel
theorem ok223 : okF okDr Tryz.prog 223 f223 = true := by decide +kernel
theorem ok234 : okF okDr Tryz.prog 234 f234 = true := by decide +kernel
theorem ok256 : okF okDr Tryz.prog 256 f256 = true := by decide +kernel
theorem ok259 : okF okDr Tryz.prog 259 f259 = true := by decide +kernel
theorem ok261 : okF okDr Tryz.prog 261 f261 = true := by decide +kernel
theorem ok273 : okF okDr Tryz.prog 273 f273 = true := by decide +kernel
theorem ok330 : okF okDr Tryz.prog 330 f330 = true := by decide +kernel
theorem ok331 : okF okDr Tryz.prog 331 f331 = true := by decide +kernel
theorem ok355 : okF okDr Tryz.prog 355 f355 = true := by decide +kernel
theorem ok380 : okF okDr Tryz.prog 380 f380 = true := by decide +kernel
end Go.Am.Pz
