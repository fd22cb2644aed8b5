import Derived.Test.YtlkhoeghlihdlaaGreatAmDrw3
import Derived.Test.YtlkhoeghlihdlaaGreatAmP0
import Derived.Test.YtlkhoeghlihdlaaGreatAmP1
import Derived.Test.YtlkhoeghlihdlaaGreatAmP2
import Derived.Test.YtlkhoeghlihdlaaGreatProg
namespace Go.Am.Pz
open Go.Am Go.Proofs
set_option maxRecDepth 1000000
theorem ok42 : okF okDr Tryz.prog 42 f42 = true := by decide +kernel
theorem ok79 : okF okDr Tryz.prog 79 f79 = true := by decide +kernel
theorem ok81 : okF okDr Tryz.prog 81 f81 = true := by decide +kernel
theorem ok82 : okF okDr Tryz.prog 82 f82 = true := by decide +kernel
theorem ok99 : okF okDr Tryz.prog 99 f99 = true := by decide +kernel
theorem ok108 : okF okDr Tryz.prog 108 f108 = true := by decide +kernel
theorem ok144 : okF okDr Tryz.prog 144 f144 = true := by decide +kernel
theorem ok150 : okF okDr Tryz.prog 150 f150 = true := by decide +kernel
theorem ok155 : okF okDr Tryz.prog 155 f155 = true := by decide +kernel
theorem ok162 : okF okDr Tryz.prog 162 f162 = true := by decide +kernel
theorem ok167 : okF okDr Tryz.prog 167 f167 = true := by decide +kernel
theorem ok169 : okF okDr Tryz.prog 169 f169 = true := by decide +kernel
theorem ok192 : okF okDr Tryz.prog 192 f192 = true := by decide +kernel
theorem ok206 : okF okDr Tryz.prog 206 f206 = true := by decide +kernel
theorem ok208 : okF okDr Tryz.prog 208 f208 = true := by decide +kernel
theorem ok219 : okF okDr Tryz.prog 219 f219 = true := by decide +kernel
theorem ok229 : okF okDr Tryz.prog 229 f229 = true := by decide +kernel
theorem ok230 : okF okDr Tryz.prog 230 f230 = true := by decide +kernel
theorem ok235 : okF okDr Tryz.prog 235 f235 = true := by decide +kernel
theorem ok237 : okF okDr Tryz.prog 237 f237 = true := by decide +kernel
theorem ok251 : okF okDr Tryz.prog 251 f251 = true := by decide +kernel
theorem ok254 : okF okDr Tryz.prog 254 f254 = true := by decide +kernel
theorem ok278 : okF okDr Tryz.prog 278 f278 = true := by decide +kernel
theorem ok279 : okF okDr Tryz.prog 279 f279 = true := by decide +kernel
theorem ok282 : okF okDr Tryz.prog 282 f282 = true := by decide +kernel
theorem ok303 : okF okDr Tryz.prog 303 f303 = true := by decide +kernel
theorem ok305 : okF okDr Tryz.prog 305 f305 = true := by decide +kernel
theorem ok317 : okF okDr Tryz.prog 317 f317 = true := by decide +kernel
theorem ok329 : okF okDr Tryz.prog 329 f329 = true := by decide +kernel
theorem ok359 : okF okDr Tryz.prog 359 f359 = true := by decide +kernel
end Go.Am.Pz
namespace Go.Am.Pz
open Go.Am Go.Proofs
set_option maxRecDepth 1000000
theorem ok30 : okF okDr Tryz.prog 30 f30 = true := by decide +kernel
theorem ok34 : okF okDr Tryz.prog 34 f34 = true := by decide +kernel
theorem ok45 : okF okDr Tryz.prog 45 f45 = true := by decide +kernel
theorem ok72 : okF okDr Tryz.prog 72 f72 = true := by decide +kernel
theorem ok75 : okF okDr Tryz.prog 75 f75 = true := by decide +kernel
theorem ok114 : okF okDr Tryz.prog 114 f114 = true := by decide +kernel
theorem ok138 : okF okDr Tryz.prog 138 f138 = true := by decide +kernel
theorem ok139 : okF okDr Tryz.prog 139 f139 = true := by decide +kernel
theorem ok143 : okF okDr Tryz.prog 143 f143 = true := by decide +kernel
theorem ok166 : okF okDr Tryz.prog 166 f166 = true := by decide +kernel
theorem ok179 : okF okDr Tryz.prog 179 f179 = true := by decide +kernel
theorem ok182 : okF okDr Tryz.prog 182 f182 = true := by decide +kernel
theorem ok196 : okF okDr Tryz.prog 196 f196 = true := by decide +kernel
theorem ok200 : okF okDr Tryz.prog 200 f200 = true := by decide +kernel
theorem ok201 : okF okDr Tryz.prog 201 f201 = true := by decide +kernel
theorem ok209 : okF okDr Tryz.prog 209 f209 = true := by decide +kernel
theorem ok236 : okF okDr Tryz.prog 236 f236 = true := by decide +kernel
theorem ok245 : okF okDr Tryz.prog 245 f245 = true := by decide +kernel
theorem ok246 : okF okDr Tryz.prog 246 f246 = true := by decide +kernel
theorem ok252 : okF okDr Tryz.prog 252 f252 = true := by decide +kernel
theorem ok262 : okF okDr Tryz.prog 262 f262 = true := by decide +kernel
theorem ok269 : okF okDr Tryz.prog 269 f269 = true := by decide +kernel
theorem ok281 : okF okDr Tryz.prog 281 f281 = true := by decide +kernel
theorem ok287 : okF okDr Tryz.prog 287 f287 = true := by decide +kernel
theorem ok315 : okF okDr Tryz.prog 315 f315 = true := by decide +kernel
theorem ok325 : okF okDr Tryz.prog 325 f325 = true := by decide +kernel
theorem ok346 : okF okDr Tryz.prog 346 f346 = true := by decide +kernel
theorem ok400 : okF okDr Tryz.prog 400 f400 = true := by decide +kernel
theorem ok408 : okF okDr Tryz.prog 408 f408 = true := by decide +kernel
end Go.Am.Pz
