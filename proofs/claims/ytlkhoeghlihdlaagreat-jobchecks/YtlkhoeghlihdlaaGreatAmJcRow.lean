import Derived.Test.YtlkhoeghlihdlaaGreatAmJf
import Derived.Test.YtlkhoeghlihdlaaGreatAmJcF
import Derived.Test.YtlkhoeghlihdlaaGreatRows
import Derived.WalkKit
import Derived.ProofKit
import Derived.OpenShut
namespace Go.Am.Pz
open Go.Am Go.Proofs Go.ChangeShapes Go.WideShapes Go.ChangeAt Go.RowKit Go.Proofs.YtlkhoeghlihdlaaGreat
set_option maxRecDepth 1000000
theorem eqself {τ : Nat → Ty} {ρ : Nat → W} (hρ : ∀ n, hasT (τ n) (ρ n)) {a b c : Ex} (h : ty τ a = some .i) : dn ρ (.ite (.bin .eql a a) b c) = dn ρ b := by
  obtain ⟨z, hz⟩ := (ty_ok hρ a _ h).1
  show iteW (outW (bopW .eql (dn ρ a) (dn ρ a))) (dn ρ b) (dn ρ c) = _
  rw [hz, bop_eql]
  show iteW (.bool (decide (z = z))) _ _ = _
  rw [decide_eq_true rfl]; rfl
theorem c3true (ws : List W) (hw : allT c3.tys ws = true) : dv (env ws) c3.res = .w (.bool true) :=
  congrArg V.w (eqself (b := .c (.bool true)) (allT_env hw) (by decide +kernel))
theorem own : ownKnob Tryz.prog.godebug = none := by kernel_rfl
def tA : List Ty := List.replicate 7 Ty.i ++ [.b] ++ List.replicate 12 .i
def tB : List Ty := List.replicate 28 Ty.i ++ [.b, .i]
def cmpT (a : Option (List Ty)) (b : List Ty) : Bool := match a with | some l => decide (l = b) | none => false
theorem cmpT_eq {a : Option (List Ty)} {b : List Ty} (h : cmpT a b = true) : a = some b := by
  cases a with
  | none => cases h
  | some l => rw [of_decide_eq_true (show decide (l = b) = true from h)]
theorem fA : flatTy Tryz.prog 6 23 = some tA := cmpT_eq (by decide +kernel)
theorem fB : flatTy Tryz.prog 6 28 = some tB := cmpT_eq (by decide +kernel)
theorem lenA : ∀ {ws : List W}, allT tA ws = true → Nat.beq ws.length 20 = true := fun h => by rw [← allT_len h]; rfl
theorem lenB : ∀ {ws : List W}, allT tB ws = true → Nat.beq ws.length 30 = true := fun h => by rw [← allT_len h]; rfl
theorem walkJc {a b : List W} (ha : allT tA a = true) (hb : allT tB b = true) : PureCall Tryz.prog 3 [.agg (a.map valW).toArray, .agg (b.map valW).toArray] (.bool true) := by
  have hfl : flat c3.sh [.a a, .a b] = some (a ++ (b ++ [])) := by
    show (bif Nat.beq a.length 20 then (bif Nat.beq b.length 30 then some (b ++ []) else none).map (fun l => a ++ l) else none) = _
    rw [lenA ha, lenB hb]; rfl
  have hty : allT c3.tys (a ++ (b ++ [])) = true := by rw [List.append_nil]; exact allT_append (ts := tA) (us := tB) ha hb
  have := k3.call _ _ hfl hty
  rw [c3true _ hty] at this
  exact this
theorem lifted (os : Os) (started : os.Started) (H : Type) (enc : TypeId × Value → H) :
    ReturnsInHanded {} Tryz.checked os 3 .any (Rows.jobChecksSpec.pre6 enc Tryz.prog Tryz.f3 Rows.jobChecksRow.domain false) (Rows.jobChecksSpec.post enc Tryz.prog Tryz.f3 false true false false) := by
  refine returnsInHanded_of_change (C := Tryz.checked) own started (by kernel_rfl) Tryz.func3
    (ChangeSpec.witness6 (enc := enc) (C := Tryz.checked) false ⟨#[], #[.agg (Array.replicate 7 (.int .i64 0) ++ #[.bool false] ++ Array.replicate 12 (.int .i64 0)), .agg (Array.replicate 28 (.int .i64 0) ++ #[.bool false, .int .i64 0])], []⟩ 8 (by kernel_rfl) (by kernel_rfl) (by kernel_rfl) (by kernel_rfl)) ?_
  intro W base args ds gs before hval0 hW hcnd _
  have hval : ∀ (j : Nat) t v, Tryz.f3.params[j]? = some t → args[j]? = some v → Value.okWide Tryz.prog W .any base t v := hval0
  have hW' := hW
  obtain ⟨p, q, hA0, hV, rfl, hfz, hnd⟩ := hW
  have hA : DataW.TrodAll enc Tryz.prog W 0 (fun _ => true) true Tryz.f3.params.toList args.toList ds p := hA0
  rw [Tryz.params3] at hA hval
  obtain ⟨v0, vs0, d0, ds0, p0, q0, hargs, rfl, rfl, h0, r0⟩ := trodAll_cons hA
  obtain ⟨v1, vs1, d1, ds1, p1, q1, rfl, rfl, rfl, h1, r1⟩ := trodAll_cons r0
  obtain ⟨rfl, rfl, rfl⟩ := trodAll_nil r1
  obtain rfl : args = #[v0, v1] := by cases args; simp_all
  obtain ⟨rfl, rfl⟩ := trodVars_none hV
  obtain ⟨c0, rfl, _⟩ := okWide_struct Tryz.underlying23 (hval 0 23 v0 rfl rfl)
  obtain ⟨c1, rfl, _⟩ := okWide_struct Tryz.underlying28 (hval 1 28 v1 rfl rfl)
  obtain ⟨n0, h0⟩ := h0
  obtain ⟨n1, h1⟩ := h1
  obtain ⟨e0, ⟨a, a1, a2⟩, a3⟩ := flat_ok 6 23 tA fA _ _ _ _ _ _ _ h0
  obtain ⟨e1, ⟨b, b1, b2⟩, b3⟩ := flat_ok 6 28 tB fB _ _ _ _ _ _ _ h1
  have e0 : p0 = [] := e0
  have e1 : p1 = [] := e1
  subst e0; subst e1
  have a2 : c0.toList = a.map valW := a2
  have b2 : c1.toList = b.map valW := b2
  have hc0 : c0 = (a.map valW).toArray := by rw [← a2]
  have hc1 : c1 = (b.map valW).toArray := by rw [← b2]
  clear hA0 hval0
  have hcall := walkJc a1 b1 W
  rw [← hc0, ← hc1] at hcall
  refine Calls.mono hcall ?_
  rintro e W' ⟨rfl, hg⟩
  exact ⟨_, rfl, _, _, [], [], [], [], hW', trodAll_cons_mk (p := []) (p' := []) (shut_bool Tryz.underlying4 _) trodAll_mk0, trodAll_cons_mk (p := []) (p' := []) ⟨n0, a3 _ _ _ _⟩ (trodAll_cons_mk (p := []) (p' := []) ⟨n1, b3 _ _ _ _⟩ trodAll_mk0), rfl, hg.frame _, fun h => by cases h⟩
theorem over : Rows.jobChecksRow.holds Tryz.pinned (OpenSpec.ofChange Rows.jobChecksSpec) :=
  OpenClaim.holds_of_wide 3 Tryz.f3 rfl rfl rfl rfl rfl rfl rfl ⟨rfl, rfl, rfl, rfl, rfl⟩ rfl rfl rfl rfl rfl named3 Tryz.func3 closed3
    (of_decide_eq_true (by kernel_rfl)) (by unfold Func.isWrapper; first | (rw [if_pos (by decide +kernel)]; kernel_rfl) | (rw [if_neg (by decide +kernel)]; exact ⟨rfl, rfl⟩))
    (fun os started H enc _ => lifted os started H enc)
end Go.Am.Pz
namespace Go.Proofs.YtlkhoeghlihdlaaGreat
theorem jobChecks_holds : Rows.JobChecksSaid := Go.Am.Pz.over
end Go.Proofs.YtlkhoeghlihdlaaGreat
