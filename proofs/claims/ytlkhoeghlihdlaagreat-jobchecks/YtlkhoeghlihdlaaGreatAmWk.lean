import Derived.Test.YtlkhoeghlihdlaaGreatAmOk
namespace Go.Am
open Pz Go.RowKit
set_option maxRecDepth 1000000
def isTV (v : V) : Bool := match v with | .w (.bool b) => b | _ => false
noncomputable def isT (r : R) : Bool := Option.rec (motive := fun _ => Bool) false (fun p => Prod.rec (motive := fun _ => Bool) (fun v _ => isTV v) p) r
theorem isT_eq {r : R} (h : isT r = true) : ∃ h', r = some (.w (.bool true), h') := by
  cases r with
  | none => cases h
  | some p =>
    obtain ⟨v, h'⟩ := p
    have h : isTV v = true := h
    cases v with
    | w x => cases x <;> first | (cases h; done) | (rename_i b _; have hb : b = true := h; subst hb; exact ⟨h', rfl⟩)
    | a _ => cases h
    | t _ => cases h
theorem worksT : isT (callF pr 2000 (.w (.fnc p7)) [] h00) = true := by decide +kernel
/-- the probe answers true, in whatever world -/
theorem works_pure : PureCall Go.Proofs.Tryz.prog 7 [] (.bool true) := by
  intro w
  obtain ⟨h', e⟩ := isT_eq worksT
  refine (calls_of_am (sound 2000 2000) (k := p7) (args := []) (vals := []) (v := .w (.bool true)) (h' := h') e trivial w).mono ?_
  rintro e w' ⟨v', rfl, ⟨φ', r⟩, b⟩
  exact ⟨by rw [show v' = Value.bool true from r], b⟩
end Go.Am
