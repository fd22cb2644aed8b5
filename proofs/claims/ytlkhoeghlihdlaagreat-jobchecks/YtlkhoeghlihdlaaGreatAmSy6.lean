import Derived.Test.YtlkhoeghlihdlaaGreatAmSy
import Derived.Test.YtlkhoeghlihdlaaGreatAmDef
namespace Go.Am
open Go.RowKit
set_option autoImplicit false
set_option linter.unusedSimpArgs false
set_option linter.unusedVariables false
noncomputable def resS1 (st : Ss) (p : P) (k : Option (Option Nat)) : Option Pv :=
  match k with
  | none => rd st.σ none (.t p)
  | some n => bnd (rd st.σ none (.t p)) fun v => bnd (ptrE v) fun q => bnd (st.η.get q.1) fun es => cellE n (es.drop q.2)
noncomputable def resSL (st : Ss) : List (P × Option (Option Nat)) → Option (List Pv)
  | [] => some []
  | x :: l => bnd (resS1 st x.1 x.2) fun v => bnd (resSL st l) fun vs => some (v :: vs)
noncomputable def kFn (res : List (P × Option (Option Nat))) : Kt := fun x st => X.rec (motive := fun _ => Option Rt) (bnd (resSL st res) fun vs => some (.lf vs)) (fun _ => none) (bnd (resSL st res) fun vs => some (.lf vs)) x
noncomputable def mkSy : List Pv → P → Tr Sv → Tr Sv
  | [], _, σ => σ
  | v :: vs, p, σ => mkSy vs p.next (Tr.put (some (.p v)) p σ)
noncomputable def sF (τ : Nat → Ty) (sp : Sp) (n : Nat) (f : F) (args : List Pv) : Option Rt := sC τ sp n f.body ⟨mkSy args .h .e, .e, .h⟩ (kFn f.res)
def toU (v : V) : U := match v with | .w x => .w x | .a cs => .a cs | .t _ => .w .nilp
def tupV (vs : List V) : V := match vs with | [v] => v | vs => .t (vs.map toU)
section
variable {ρ : Nat → W} {τ : Nat → Ty} {s s' : S} {h h' : H} {cl : Call} {sp : Sp} {gd : Gd} {st st' : Ss} {pu : Bool}
theorem mkSy_ok : ∀ {vs : List Pv} {p : P} {σ : Tr Sv} {s : S}, RSg ρ σ s → ∃ s', mkS (vs.map (dv ρ)) p s = some s' ∧ RSg ρ (mkSy vs p σ) s'
  | [], p, σ, s, hs => ⟨s, mkS_nil, hs⟩
  | v :: vs, p, σ, s, hs => by
    rw [List.map_cons, mkS_cons]
    exact mkSy_ok (hs.put (x := some (.p v)) (v := dv ρ v) fun y hy => by cases hy; rfl)
theorem resS1_ok (hs : RSg ρ st.σ s) (hh : RHp ρ st.η st.sz h) {p : P} {k : Option (Option Nat)} {v : Pv} (hx : resS1 st p k = some v) : res1 s h p k = some (dv ρ v) := by
  cases k with
  | none => exact rd_ok hs (gd := none) (fun e c he => by cases he) (show rd st.σ none (.t p) = some v from hx)
  | some n =>
    obtain ⟨u, h1, h2⟩ := bnd_eq.1 (show bnd (rd st.σ none (.t p)) (fun v => bnd (ptrE v) fun q => bnd (st.η.get q.1) fun es => cellE n (es.drop q.2)) = some v from hx)
    obtain ⟨q, h3, h4⟩ := bnd_eq.1 h2
    obtain ⟨es, h5, h6⟩ := bnd_eq.1 h4
    obtain ⟨T, hT⟩ := hh.row _ _ h5
    rw [res1_some]
    unfold aLd
    rw [rd_ok hs (gd := none) (fun e c he => by cases he) h1, ptrE_eq h3, bnd_some]
    show bnd2 (onPtr (V.w (W.ptr q.1 q.2)) _) _ = _
    rw [onPtr_p, atRow_at hT, dropX_eq, ← List.map_drop, cellE_ok h6]; rfl
theorem dv_onU {v : Pv} {β : Type} {f : U → Option β} : onU (dv ρ v) f = f (toU (dv ρ v)) := by cases v <;> rfl
theorem resSL_ok (hs : RSg ρ st.σ s) (hh : RHp ρ st.η st.sz h) : ∀ {l : List (P × Option (Option Nat))} {vs : List Pv}, resSL st l = some vs → resL s h l = some ((vs.map (dv ρ)).map toU)
  | [], vs, hx => by cases hx; rfl
  | (p, k) :: l, vs, hx => by
    obtain ⟨v, h1, h2⟩ := bnd_eq.1 hx
    obtain ⟨us, h3, h4⟩ := bnd_eq.1 h2
    cases h4
    rw [resL_cons, resS1_ok hs hh h1, bnd_some, dv_onU, resSL_ok hs hh h3]; rfl
theorem tupR_ok {vs : List Pv} : tupR ((vs.map (dv ρ)).map toU) h = some (tupV (vs.map (dv ρ)), h) := by
  match vs with
  | [] => rfl
  | [v] => cases v <;> rfl
  | _ :: _ :: _ => rfl
theorem sF_ok (hρ : ∀ n, hasT (τ n) (ρ n)) (hsp : SpOk ρ sp cl) (hmc : MonCall cl) {n : Nat} {f : F} {args : List Pv} {r : Rt} (hx : sF τ sp n f args = some r) : ∃ h', callFn (runC cl n) f (args.map (dv ρ)) h00 = some (tupV (ev ρ r), h') := by
  obtain ⟨res, body⟩ := f
  obtain ⟨s0, e1, e2⟩ := mkSy_ok (ρ := ρ) (vs := args) (p := .h) (σ := .e) (s := .e) (fun p x hp => by change Tr.get p (Tr.e : Tr Sv) = some x at hp; simp at hp)
  obtain ⟨x, s1, h1, st1, r1, g1, g2, g3, g4, g5⟩ := sC_ok (s := s0) (h := h00) hρ hsp hmc (show sC τ sp n body ⟨mkSy args .h .e, .e, .h⟩ (kFn res) = some r from hx) e2 ⟨fun b es hb => by change Tr.get b (Tr.e : Tr (List Ex)) = some es at hb; simp at hb, rfl⟩
  have fin : ∀ {y : Option Rt}, (y = bnd (resSL st1 res) fun vs => some (.lf vs)) → y = some r1 → bnd (resL s1 h1 res) (fun vs => tupR vs h1) = some (tupV (ev ρ r), h1) := by
    rintro y rfl hy
    obtain ⟨vs, k1, k2⟩ := bnd_eq.1 hy
    cases k2
    rw [resSL_ok g2 g3 k1, bnd_some, tupR_ok, g5]; rfl
  refine ⟨h1, ?_⟩
  rw [callFn_mk, e1, bnd_some, g1, bnd3_some]
  cases x with
  | nrm => rw [okX_nrm]; exact fin rfl g4
  | exit id => cases g4
  | ret => rw [okX_ret]; exact fin rfl g4
end
/-! contracts -/
noncomputable def colP (τ : Nat → Ty) : Rt → Option Pv
  | .lf vs => match vs with | [v] => some v | _ => none
  | .br e a b => bnd (colP τ a) fun x => bnd (colP τ b) fun y => mkIteP τ e x y
theorem colP_ok {ρ : Nat → W} {τ : Nat → Ty} (hρ : ∀ n, hasT (τ n) (ρ n)) : ∀ {r : Rt} {x : Pv}, colP τ r = some x → ev ρ r = [dv ρ x]
  | .lf vs, x, hx => by
    unfold colP at hx
    split at hx
    · cases hx; rfl
    · cases hx
  | .br e a b, x, hx => by
    obtain ⟨u, h1, h2⟩ := bnd_eq.1 hx
    obtain ⟨v, h3, h4⟩ := bnd_eq.1 h2
    obtain ⟨t, e1, e2⟩ := mkIteP_ok hρ h4
    show (match dn ρ e with | .bool t => bif t then ev ρ a else ev ρ b | _ => []) = _
    rw [e1, e2, colP_ok hρ h1, colP_ok hρ h3]
    cases t <;> rfl
def sameL : List Ex → List Ex → Bool
  | [], [] => true
  | x :: xs, y :: ys => sameX x y && sameL xs ys
  | _, _ => false
def sameV2 (x y : Pv) : Bool := match x, y with | .w a, .w b => sameX a b | .a xs, .a ys => sameL xs ys | _, _ => false
theorem sameL_eq : ∀ {xs ys : List Ex}, sameL xs ys = true → xs = ys
  | [], [], _ => rfl
  | x :: xs, y :: ys, h => by simp only [sameL, Bool.and_eq_true] at h; rw [sameX_eq h.1, sameL_eq h.2]
  | [], _ :: _, h => by cases h
  | _ :: _, [], h => by cases h
theorem sameV2_eq {x y : Pv} (h : sameV2 x y = true) : x = y := by
  cases x <;> cases y
  · rw [sameX_eq (show sameX _ _ = true from h)]
  · cases h
  · cases h
  · rw [sameL_eq (show sameL _ _ = true from h)]
structure Ct where
  sh : List (Option Nat)
  tys : List Ty
  res : Pv
def flat : List (Option Nat) → List V → Option (List W)
  | [], [] => some []
  | none :: sh, .w x :: vs => (flat sh vs).map fun l => x :: l
  | some n :: sh, .a cs :: vs => bif Nat.beq cs.length n then (flat sh vs).map fun l => cs ++ l else none
  | _, _ => none
def flatE : List (Option Nat) → List Pv → Option (List Ex)
  | [], [] => some []
  | none :: sh, .w x :: vs => (flatE sh vs).map fun l => x :: l
  | some n :: sh, .a cs :: vs => bif Nat.beq cs.length n then (flatE sh vs).map fun l => cs ++ l else none
  | _, _ => none
def hasB (t : Ty) (w : W) : Bool := match t, w with | .i, .int .i64 _ => true | .b, .bool _ => true | _, _ => false
def allT : List Ty → List W → Bool
  | [], [] => true
  | t :: ts, w :: ws => hasB t w && allT ts ws
  | _, _ => false
def allX (τ : Nat → Ty) : List Ty → List Ex → Bool
  | [], [] => true
  | t :: ts, e :: es => isTy t (ty τ e) && allX τ ts es
  | _, _ => false
def env (ws : List W) (n : Nat) : W := (ws[n]?).getD (.int .i64 0)
def tenv (ts : List Ty) (n : Nat) : Ty := (ts[n]?).getD .i
def subX (es : List Ex) : Ex → Ex
  | .v n => (es[n]?).getD (.c (.int .i64 0))
  | .c w => .c w
  | .bin o a b => .bin o (subX es a) (subX es b)
  | .un o a => .un o (subX es a)
  | .ite c a b => .ite (subX es c) (subX es a) (subX es b)
def subV (es : List Ex) (x : Pv) : Pv := match x with | .w e => .w (subX es e) | .a l => .a (l.map (subX es))
theorem hasB_ok {t : Ty} {w : W} : hasB t w = true ↔ hasT t w := by
  constructor
  · intro h; unfold hasB at h; split at h <;> first | exact ⟨_, rfl⟩ | cases h
  · cases t
    · rintro ⟨z, rfl⟩; rfl
    · rintro ⟨z, rfl⟩; rfl
theorem allT_len : ∀ {ts : List Ty} {ws : List W}, allT ts ws = true → ts.length = ws.length
  | [], [], _ => rfl
  | t :: ts, w :: ws, h => by simp only [allT, Bool.and_eq_true] at h; simp [allT_len h.2]
  | [], _ :: _, h => by cases h
  | _ :: _, [], h => by cases h
theorem allT_env : ∀ {ts : List Ty} {ws : List W}, allT ts ws = true → ∀ n, hasT (tenv ts n) (env ws n)
  | [], [], _, n => ⟨0, by simp [env]⟩
  | t :: ts, w :: ws, h, n => by
    simp only [allT, Bool.and_eq_true] at h
    cases n with
    | zero => exact hasB_ok.1 h.1
    | succ n => have := allT_env h.2 n; simpa [tenv, env] using this
  | [], _ :: _, h, n => by cases h
  | _ :: _, [], h, n => by cases h
theorem subX_ok {ρ : Nat → W} {es : List Ex} : ∀ (e : Ex), dn ρ (subX es e) = dn (env (es.map (dn ρ))) e
  | .v n => by
    show dn ρ ((es[n]?).getD (.c (.int .i64 0))) = env (es.map (dn ρ)) n
    unfold env
    rw [List.getElem?_map]
    cases es[n]? <;> rfl
  | .c w => rfl
  | .bin o a b => by show outW (bopW o (dn ρ (subX es a)) (dn ρ (subX es b))) = outW (bopW o (dn _ a) (dn _ b)); rw [subX_ok a, subX_ok b]
  | .un o a => by show outW (unW o (dn ρ (subX es a))) = outW (unW o (dn _ a)); rw [subX_ok a]
  | .ite c a b => by show iteW (dn ρ (subX es c)) (dn ρ (subX es a)) (dn ρ (subX es b)) = iteW (dn _ c) (dn _ a) (dn _ b); rw [subX_ok c, subX_ok a, subX_ok b]
theorem subV_ok {ρ : Nat → W} {es : List Ex} (x : Pv) : dv ρ (subV es x) = dv (env (es.map (dn ρ))) x := by
  cases x with
  | w e => show V.w _ = V.w _; rw [subX_ok]
  | a l =>
    show V.a ((l.map (subX es)).map (dn ρ)) = V.a (l.map _)
    rw [List.map_map]
    exact congrArg V.a (List.map_congr_left fun e _ => subX_ok e)
theorem flatE_ok {ρ : Nat → W} : ∀ {sh : List (Option Nat)} {vs : List Pv} {es : List Ex}, flatE sh vs = some es → flat sh (vs.map (dv ρ)) = some (es.map (dn ρ))
  | [], [], es, h => by cases h; rfl
  | none :: sh, .w x :: vs, es, h => by
    obtain ⟨l, h1, h2⟩ := Option.map_eq_some_iff.1 (show (flatE sh vs).map (fun l => x :: l) = some es from h)
    cases h2
    show (flat sh (vs.map (dv ρ))).map _ = _
    rw [flatE_ok h1]; rfl
  | some n :: sh, .a cs :: vs, es, h => by
    obtain ⟨h0, h3⟩ := bif_none.1 (show (bif Nat.beq cs.length n then (flatE sh vs).map fun l => cs ++ l else none) = some es from h)
    obtain ⟨l, h1, h2⟩ := Option.map_eq_some_iff.1 h3
    cases h2
    show (bif Nat.beq (cs.map (dn ρ)).length n then (flat sh (vs.map (dv ρ))).map fun l => cs.map (dn ρ) ++ l else none) = _
    rw [List.length_map, h0, flatE_ok h1, List.map_append]; rfl
  | [], _ :: _, es, h => by cases h
  | none :: _, [], es, h => by cases h
  | some _ :: _, [], es, h => by cases h
  | none :: _, .a _ :: _, es, h => by cases h
  | some _ :: _, .w _ :: _, es, h => by cases h
theorem allX_ok {ρ : Nat → W} {τ : Nat → Ty} (hρ : ∀ n, hasT (τ n) (ρ n)) : ∀ {ts : List Ty} {es : List Ex}, allX τ ts es = true → allT ts (es.map (dn ρ)) = true
  | [], [], _ => rfl
  | t :: ts, e :: es, h => by
    simp only [allX, Bool.and_eq_true] at h
    show (hasB t (dn ρ e) && allT ts (es.map (dn ρ))) = true
    rw [allX_ok hρ h.2, hasB_ok.2 (ty_ok hρ e t (isTy_eq.1 h.1)).1]; rfl
  | [], _ :: _, h => by cases h
  | _ :: _, [], h => by cases h
abbrev Tb := P → Option Ct
noncomputable def specV (T : Tb) (k : P) (vs : List V) : Option V := bnd (T k) fun ct => bnd (flat ct.sh vs) fun ws => bif allT ct.tys ws then some (dv (env ws) ct.res) else none
noncomputable def specS (τ : Nat → Ty) (T : Tb) : Sp := fun k vs => bnd (T k) fun ct => bnd (flatE ct.sh vs) fun es => bif allX τ ct.tys es then some (subV es ct.res) else none
theorem spec_ok {ρ : Nat → W} {τ : Nat → Ty} (hρ : ∀ n, hasT (τ n) (ρ n)) (T : Tb) : SpOk ρ (specS τ T) (clOf (specV T)) := by
  intro k vs r hx h
  obtain ⟨ct, h1, h2⟩ := bnd_eq.1 hx
  obtain ⟨es, h3, h4⟩ := bnd_eq.1 h2
  obtain ⟨h5, h6⟩ := bif_none.1 h4
  cases h6
  rw [clOf_eq]
  unfold specV
  rw [h1, bnd_some, flatE_ok h3, bnd_some, allX_ok hρ h5, subV_ok]; rfl
end Go.Am
namespace Go.Am
open Go.RowKit
set_option autoImplicit false
set_option linter.unusedSimpArgs false
set_option linter.unusedVariables false
/-! plain values: whole numbers and bools -/
def valW (w : W) : Value := match w with | .int k n => .int k n | .bool b => .bool b | _ => undef
def valV (v : V) : Value := match v with | .w x => valW x | .a cs => .agg (cs.map valW).toArray | .t _ => undef
def plnW (w : W) : Prop := (∃ k n, w = .int k n) ∨ ∃ b, w = .bool b
theorem plnW_of {t : Ty} {w : W} (h : hasT t w) : plnW w := by
  cases t
  · obtain ⟨z, rfl⟩ := h; exact .inl ⟨_, _, rfl⟩
  · obtain ⟨b, rfl⟩ := h; exact .inr ⟨_, rfl⟩
theorem plnW_rel {φ : Phi} {w : W} (h : plnW w) {v : Value} : RelW φ w v ↔ v = valW w := by
  rcases h with ⟨k, n, rfl⟩ | ⟨b, rfl⟩ <;> exact Iff.rfl
theorem plnL_rel {φ : Phi} : ∀ {cs : List W}, (∀ x ∈ cs, plnW x) → ∀ {l : List Value}, RelL (RelW φ) cs l ↔ l = cs.map valW
  | [], _, [] => by simp [RelL]
  | [], _, _ :: _ => by simp [RelL]
  | _ :: _, _, [] => by simp [RelL]
  | x :: cs, h, v :: l => by
    show RelW φ x v ∧ RelL (RelW φ) cs l ↔ _
    rw [plnW_rel (h x (List.mem_cons_self ..)), plnL_rel fun y hy => h y (List.mem_cons_of_mem _ hy)]
    simp
def plnV (v : V) : Prop := match v with | .w x => plnW x | .a cs => ∀ x ∈ cs, plnW x | .t _ => False
theorem plnV_rel {φ : Phi} {x : V} (h : plnV x) {v : Value} : RelV φ x v ↔ v = valV x := by
  cases x with
  | w x => exact plnW_rel h
  | a cs =>
    constructor
    · rintro ⟨arr, rfl, hr⟩
      show Value.agg arr = .agg (cs.map valW).toArray
      rw [← (plnL_rel h).1 hr]
    · rintro rfl
      exact ⟨_, rfl, (plnL_rel h).2 rfl⟩
  | t _ => exact h.elim
theorem plnVs_rel {φ : Phi} : ∀ {xs : List V}, (∀ x ∈ xs, plnV x) → ∀ {l : List Value}, RelL (RelV φ) xs l ↔ l = xs.map valV
  | [], _, [] => by simp [RelL]
  | [], _, _ :: _ => by simp [RelL]
  | _ :: _, _, [] => by simp [RelL]
  | x :: cs, h, v :: l => by
    show RelV φ x v ∧ RelL (RelV φ) cs l ↔ _
    rw [plnV_rel (h x (List.mem_cons_self ..)), plnVs_rel fun y hy => h y (List.mem_cons_of_mem _ hy)]
    simp
theorem allT_pln : ∀ {ts : List Ty} {ws : List W}, allT ts ws = true → ∀ w ∈ ws, plnW w
  | [], [], _, w, hw => by cases hw
  | t :: ts, x :: ws, h, w, hw => by
    simp only [allT, Bool.and_eq_true] at h
    rcases List.mem_cons.1 hw with rfl | hw
    · exact plnW_of (hasB_ok.1 h.1)
    · exact allT_pln h.2 w hw
  | [], _ :: _, h, w, hw => by cases h
  | _ :: _, [], h, w, hw => by cases h
theorem flat_pln : ∀ {sh : List (Option Nat)} {vs : List V} {ws : List W}, flat sh vs = some ws → (∀ w ∈ ws, plnW w) → ∀ v ∈ vs, plnV v
  | [], [], ws, h, hp, v, hv => by cases hv
  | none :: sh, .w x :: vs, ws, h, hp, v, hv => by
    obtain ⟨l, h1, h2⟩ := Option.map_eq_some_iff.1 (show (flat sh vs).map (fun l => x :: l) = some ws from h)
    cases h2
    rcases List.mem_cons.1 hv with rfl | hv
    · exact hp x (List.mem_cons_self ..)
    · exact flat_pln h1 (fun w hw => hp w (List.mem_cons_of_mem _ hw)) v hv
  | some n :: sh, .a cs :: vs, ws, h, hp, v, hv => by
    obtain ⟨h0, h3⟩ := bif_none.1 (show (bif Nat.beq cs.length n then (flat sh vs).map fun l => cs ++ l else none) = some ws from h)
    obtain ⟨l, h1, h2⟩ := Option.map_eq_some_iff.1 h3
    cases h2
    rcases List.mem_cons.1 hv with rfl | hv
    · exact fun x hx => hp x (List.mem_append_left _ hx)
    · exact flat_pln h1 (fun w hw => hp w (List.mem_append_right _ hw)) v hv
  | [], _ :: _, ws, h, hp, v, hv => by cases h
  | none :: _, [], ws, h, hp, v, hv => by cases hv
  | some _ :: _, [], ws, h, hp, v, hv => by cases hv
  | none :: _, .a _ :: _, ws, h, hp, v, hv => by cases h
  | none :: _, .t _ :: _, ws, h, hp, v, hv => by cases h
  | some _ :: _, .w _ :: _, ws, h, hp, v, hv => by cases h
  | some _ :: _, .t _ :: _, ws, h, hp, v, hv => by cases h
/-- the arguments as unknowns -/
def argE : List (Option Nat) → Nat → List Pv
  | [], _ => []
  | none :: sh, i => .w (.v i) :: argE sh (i + 1)
  | some n :: sh, i => .a ((List.range n).map fun j => .v (i + j)) :: argE sh (i + n)
theorem argE_ok {ρ : Nat → W} : ∀ {sh : List (Option Nat)} {vs : List V} {ws : List W} {i : Nat}, flat sh vs = some ws → (∀ j x, ws[j]? = some x → ρ (i + j) = x) → (argE sh i).map (dv ρ) = vs
  | [], [], ws, i, h, hr => rfl
  | none :: sh, .w x :: vs, ws, i, h, hr => by
    obtain ⟨l, h1, h2⟩ := Option.map_eq_some_iff.1 (show (flat sh vs).map (fun l => x :: l) = some ws from h)
    cases h2
    show V.w (ρ i) :: (argE sh (i + 1)).map (dv ρ) = _
    rw [show ρ i = x from hr 0 x rfl, argE_ok h1 fun j y hy => by rw [show i + 1 + j = i + (j + 1) by omega]; exact hr (j + 1) y (by simpa using hy)]
  | some n :: sh, .a cs :: vs, ws, i, h, hr => by
    obtain ⟨h0, h3⟩ := bif_none.1 (show (bif Nat.beq cs.length n then (flat sh vs).map fun l => cs ++ l else none) = some ws from h)
    obtain ⟨l, h1, h2⟩ := Option.map_eq_some_iff.1 h3
    cases h2
    have h0 : cs.length = n := Nat.eq_of_beq_eq_true h0
    show V.a (((List.range n).map fun j => Ex.v (i + j)).map (dn ρ)) :: (argE sh (i + n)).map (dv ρ) = _
    rw [argE_ok h1 fun j y hy => by rw [show i + n + j = i + (n + j) by omega]; exact hr (n + j) y (by rw [List.getElem?_append_right (by omega), show n + j - cs.length = j by omega]; exact hy)]
    congr 2
    apply List.ext_getElem?
    intro j
    rw [List.map_map, List.getElem?_map]
    by_cases hj : j < n
    · rw [List.getElem?_range hj]
      show some (ρ (i + j)) = _
      have : cs[j]? = some cs[j] := List.getElem?_eq_getElem (by omega)
      rw [this, hr j cs[j] (by rw [List.getElem?_append_left (by omega)]; exact this)]
    · rw [List.getElem?_eq_none (by simpa using hj), List.getElem?_eq_none (by omega)]; rfl
  | [], _ :: _, ws, i, h, hr => by cases h
  | none :: _, [], ws, i, h, hr => by cases h
  | some _ :: _, [], ws, i, h, hr => by cases h
  | none :: _, .a _ :: _, ws, i, h, hr => by cases h
  | none :: _, .t _ :: _, ws, i, h, hr => by cases h
  | some _ :: _, .w _ :: _, ws, i, h, hr => by cases h
  | some _ :: _, .t _ :: _, ws, i, h, hr => by cases h
def tysV (τ : Nat → Ty) (x : Pv) : Bool := match x with | .w e => (ty τ e).isSome | .a es => es.all fun e => (ty τ e).isSome
theorem tysV_pln {ρ : Nat → W} {τ : Nat → Ty} (hρ : ∀ n, hasT (τ n) (ρ n)) {x : Pv} (h : tysV τ x = true) : plnV (dv ρ x) := by
  cases x with
  | w e =>
    obtain ⟨t, ht⟩ := Option.isSome_iff_exists.1 (show (ty τ e).isSome = true from h)
    exact plnW_of (ty_ok hρ e t ht).1
  | a es =>
    intro y hy
    obtain ⟨e, he, rfl⟩ := List.mem_map.1 hy
    obtain ⟨t, ht⟩ := Option.isSome_iff_exists.1 (List.all_eq_true.1 (show (es.all fun e => (ty τ e).isSome) = true from h) e he)
    exact plnW_of (ty_ok hρ e t ht).1
/-- what a function answers, its arguments plain -/
structure CtOk (p : Program) (k : Nat) (ct : Ct) : Prop where
  fn : ∃ fn, p.funcs[k]? = some fn ∧ fn.body.isNone = false ∧ (fn.name == "runtime.NumGoroutine") = false
  pln : ∀ ws, allT ct.tys ws = true → plnV (dv (env ws) ct.res)
  call : ∀ args ws, flat ct.sh args = some ws → allT ct.tys ws = true → PureCall p k (args.map valV) (valV (dv (env ws) ct.res))
def TbOk (p : Program) (T : Tb) : Prop := ∀ k ct, T k = some ct → CtOk p k.nat ct
noncomputable def okCt (T : Tb) (n : Nat) (f : F) (ct : Ct) : Bool :=
  tysV (tenv ct.tys) ct.res && (match sF (tenv ct.tys) (specS (tenv ct.tys) T) n f (argE ct.sh 0) with | some r => (match colP (tenv ct.tys) r with | some x => sameV2 x ct.res | none => false) | none => false)
section
variable {p : Program} {T : Tb}
theorem specV_sound {cr : CR} (hT : TbOk p T) : CallSound cr p (clOf (specV T)) := by
  refine clOf_sound fun k args v hx => ?_
  obtain ⟨ct, h1, h2⟩ := bnd_eq.1 hx
  obtain ⟨ws, h3, h4⟩ := bnd_eq.1 h2
  obtain ⟨h5, h6⟩ := bif_none.1 h4
  cases h6
  have hk := hT k ct h1
  refine ⟨hk.fn, fun φ vals hv => ?_⟩
  rw [plnVs_rel (flat_pln h3 (allT_pln h5))] at hv
  subst hv
  exact ⟨_, (plnV_rel (hk.pln ws h5)).2 rfl, hk.call args ws h3 h5⟩
noncomputable def clFn (r : RunC) (k0 : P) (f : F) : Call := fun g args h => match g with | .w (.fnc k) => if k = k0 then callFn r f args h else none | _ => none
theorem fn_of_okF {k : Nat} {f : F} (hf : okF okDr p k f = true) : ∃ fn, p.funcs[k]? = some fn ∧ fn.body.isNone = false ∧ (fn.name == "runtime.NumGoroutine") = false := by
  unfold okF at hf
  split at hf
  case h_2 => cases hf
  rename_i fn hfn
  simp only [Bool.and_eq_true, Bool.not_eq_true'] at hf
  obtain ⟨⟨h1, h2⟩, h3⟩ := hf
  split at h1
  case h_2 => cases h1
  rename_i c hc
  exact ⟨fn, hfn, by rw [hc]; rfl, h3⟩
theorem ctOk_true {k : Nat} {f : F} (hf : okF okDr p k f = true) (h : PureCall p k [] (.bool true)) : CtOk p k ⟨[], [], .w (.c (.bool true))⟩ where
  fn := fn_of_okF hf
  pln ws hw := .inr ⟨true, rfl⟩
  call args ws h1 h2 := by
    cases args with
    | nil => exact h
    | cons _ _ => cases h1
theorem ctOk_of (hm : p.follows .mixedOrders = true) (hT : TbOk p T) {k : P} {f : F} (hf : okF okDr p k.nat f = true) {n : Nat} {ct : Ct} (hx : okCt T n f ct = true) : CtOk p k.nat ct := by
  unfold okCt at hx
  simp only [Bool.and_eq_true] at hx
  obtain ⟨hty, hx⟩ := hx
  split at hx
  case h_2 => cases hx
  rename_i r hr
  split at hx
  case h_2 => cases hx
  rename_i x hc
  have hsm := sameV2_eq hx
  subst hsm
  have hrun := run_sound (drawSound (cr := crOf okDr p) hm) (specV_sound hT) (clOf_mon (specV T))
  have hfn : ∃ fn, p.funcs[k.nat]? = some fn ∧ fn.body.isNone = false ∧ (fn.name == "runtime.NumGoroutine") = false := by
    unfold okF at hf
    split at hf
    case h_2 => cases hf
    rename_i fn hfn
    simp only [Bool.and_eq_true, Bool.not_eq_true'] at hf
    obtain ⟨⟨h1, h2⟩, h3⟩ := hf
    split at h1
    case h_2 => cases h1
    rename_i c hc
    exact ⟨fn, hfn, by rw [hc]; rfl, h3⟩
  refine ⟨hfn, fun ws hw => tysV_pln (allT_env hw) hty, fun args ws h1 h2 w => ?_⟩
  have hρ := allT_env h2
  obtain ⟨h', e⟩ := sF_ok hρ (spec_ok hρ T) (clOf_mon _) hr
  have hargs : (argE ct.sh 0).map (dv (env ws)) = args := argE_ok h1 fun j x hj => by rw [Nat.zero_add]; unfold env; rw [hj]; rfl
  rw [hargs, colP_ok hρ hc] at e
  have hcl : CallSound (crOf okDr p) p (clFn (runC (clOf (specV T)) n) k f) := by
    intro B0 φ h w g gv args vals v h' hx hg hv sim
    cases g with
    | a _ => cases hx
    | t _ => cases hx
    | w y =>
      cases y <;> first | (cases hx; done) | skip
      rename_i k'
      by_cases hk : k' = k
      · subst hk
        have hx : callFn (runC (clOf (specV T)) n) f args h = some (v, h') := by
          have : clFn (runC (clOf (specV T)) n) k' f (.w (.fnc k')) args h = callFn (runC (clOf (specV T)) n) f args h := if_pos rfl
          rw [← this]; exact hx
        obtain ⟨fn, k1, k2, k3, k4⟩ := callFn_sound hrun hf hv sim hx
        have e : gv = .func (.func k'.nat) #[] #[] := hg
        exact .inl ⟨k'.nat, #[], #[], fn, e, k1, k2, k3, by simpa using k4⟩
      · have : clFn (runC (clOf (specV T)) n) k f (.w (.fnc k')) args h = none := if_neg hk
        rw [this] at hx; cases hx
  have hpl := tysV_pln hρ hty
  refine (calls_of_am hcl (k := k) (args := args) (vals := args.map valV) (v := dv (env ws) ct.res) (h' := h') ?_ ((plnVs_rel (flat_pln h1 (allT_pln h2))).2 rfl) w).mono ?_
  · show (if k = k then callFn (runC (clOf (specV T)) n) f args h00 else none) = _
    rw [if_pos rfl]; exact e
  · rintro e w' ⟨v', rfl, ⟨φ', hr⟩, b⟩
    rw [plnV_rel hpl] at hr
    exact ⟨by rw [hr], b⟩
end
/-- a table of contracts -/
def tbL : List (P × Ct) → Tb
  | [], _ => none
  | (k, c) :: l, q => if q = k then some c else tbL l q
theorem tbL_nil {p : Program} : TbOk p (tbL []) := fun k ct h => by cases h
theorem tbL_cons {p : Program} {k : P} {c : Ct} {l : List (P × Ct)} (h : CtOk p k.nat c) (hl : TbOk p (tbL l)) : TbOk p (tbL ((k, c) :: l)) := fun q ct hq => by
  by_cases e : q = k
  · subst e
    have : tbL ((q, c) :: l) q = some c := if_pos rfl
    rw [this] at hq; cases hq; exact h
  · have : tbL ((k, c) :: l) q = tbL l q := if_neg e
    rw [this] at hq; exact hl q ct hq
theorem CtOk.congr {p : Program} {k : Nat} {sh : List (Option Nat)} {tys : List Ty} {r r' : Pv} (h : CtOk p k ⟨sh, tys, r⟩) (he : ∀ ws, allT tys ws = true → dv (env ws) r = dv (env ws) r') : CtOk p k ⟨sh, tys, r'⟩ where
  fn := h.fn
  pln ws hw := by have := h.pln ws hw; rw [he ws hw] at this; exact this
  call args ws h1 h2 := by have := h.call args ws h1 h2; rw [he ws h2] at this; exact this
end Go.Am
namespace Go.Am.Pz
open Go.Am
abbrev p0 : P := .h
abbrev p1 : P := (.l .h)
abbrev p2 : P := (.r .h)
abbrev p3 : P := (.l (.l .h))
abbrev p4 : P := (.r (.l .h))
abbrev p5 : P := (.l (.r .h))
abbrev p6 : P := (.r (.r .h))
abbrev p7 : P := (.l (.l (.l .h)))
abbrev p8 : P := (.r (.l (.l .h)))
abbrev p9 : P := (.l (.r (.l .h)))
abbrev p10 : P := (.r (.r (.l .h)))
abbrev p11 : P := (.l (.l (.r .h)))
abbrev p12 : P := (.r (.l (.r .h)))
abbrev p13 : P := (.l (.r (.r .h)))
abbrev p14 : P := (.r (.r (.r .h)))
abbrev p15 : P := (.l (.l (.l (.l .h))))
abbrev p16 : P := (.r (.l (.l (.l .h))))
abbrev p17 : P := (.l (.r (.l (.l .h))))
abbrev p18 : P := (.r (.r (.l (.l .h))))
abbrev p19 : P := (.l (.l (.r (.l .h))))
abbrev p20 : P := (.r (.l (.r (.l .h))))
abbrev p21 : P := (.l (.r (.r (.l .h))))
abbrev p22 : P := (.r (.r (.r (.l .h))))
abbrev p23 : P := (.l (.l (.l (.r .h))))
abbrev p24 : P := (.r (.l (.l (.r .h))))
abbrev p25 : P := (.l (.r (.l (.r .h))))
abbrev p26 : P := (.r (.r (.l (.r .h))))
abbrev p27 : P := (.l (.l (.r (.r .h))))
abbrev p28 : P := (.r (.l (.r (.r .h))))
abbrev p29 : P := (.l (.r (.r (.r .h))))
abbrev p30 : P := (.r (.r (.r (.r .h))))
abbrev p31 : P := (.l (.l (.l (.l (.l .h)))))
abbrev p32 : P := (.r (.l (.l (.l (.l .h)))))
abbrev p33 : P := (.l (.r (.l (.l (.l .h)))))
abbrev p34 : P := (.r (.r (.l (.l (.l .h)))))
abbrev p35 : P := (.l (.l (.r (.l (.l .h)))))
abbrev p36 : P := (.r (.l (.r (.l (.l .h)))))
abbrev p37 : P := (.l (.r (.r (.l (.l .h)))))
abbrev p38 : P := (.r (.r (.r (.l (.l .h)))))
abbrev p39 : P := (.l (.l (.l (.r (.l .h)))))
abbrev p40 : P := (.r (.l (.l (.r (.l .h)))))
abbrev p41 : P := (.l (.r (.l (.r (.l .h)))))
abbrev p42 : P := (.r (.r (.l (.r (.l .h)))))
abbrev p43 : P := (.l (.l (.r (.r (.l .h)))))
abbrev p44 : P := (.r (.l (.r (.r (.l .h)))))
abbrev p45 : P := (.l (.r (.r (.r (.l .h)))))
abbrev p46 : P := (.r (.r (.r (.r (.l .h)))))
abbrev p47 : P := (.l (.l (.l (.l (.r .h)))))
abbrev p48 : P := (.r (.l (.l (.l (.r .h)))))
abbrev p49 : P := (.l (.r (.l (.l (.r .h)))))
abbrev p50 : P := (.r (.r (.l (.l (.r .h)))))
abbrev p51 : P := (.l (.l (.r (.l (.r .h)))))
abbrev p52 : P := (.r (.l (.r (.l (.r .h)))))
abbrev p53 : P := (.l (.r (.r (.l (.r .h)))))
abbrev p54 : P := (.r (.r (.r (.l (.r .h)))))
abbrev p55 : P := (.l (.l (.l (.r (.r .h)))))
abbrev p56 : P := (.r (.l (.l (.r (.r .h)))))
abbrev p57 : P := (.l (.r (.l (.r (.r .h)))))
abbrev p58 : P := (.r (.r (.l (.r (.r .h)))))
abbrev p59 : P := (.l (.l (.r (.r (.r .h)))))
abbrev p60 : P := (.r (.l (.r (.r (.r .h)))))
abbrev p61 : P := (.l (.r (.r (.r (.r .h)))))
abbrev p62 : P := (.r (.r (.r (.r (.r .h)))))
abbrev p63 : P := (.l (.l (.l (.l (.l (.l .h))))))
abbrev p64 : P := (.r (.l (.l (.l (.l (.l .h))))))
abbrev p65 : P := (.l (.r (.l (.l (.l (.l .h))))))
abbrev p66 : P := (.r (.r (.l (.l (.l (.l .h))))))
abbrev p67 : P := (.l (.l (.r (.l (.l (.l .h))))))
abbrev p68 : P := (.r (.l (.r (.l (.l (.l .h))))))
abbrev p69 : P := (.l (.r (.r (.l (.l (.l .h))))))
abbrev p70 : P := (.r (.r (.r (.l (.l (.l .h))))))
abbrev p71 : P := (.l (.l (.l (.r (.l (.l .h))))))
abbrev p72 : P := (.r (.l (.l (.r (.l (.l .h))))))
abbrev p73 : P := (.l (.r (.l (.r (.l (.l .h))))))
abbrev p74 : P := (.r (.r (.l (.r (.l (.l .h))))))
abbrev p75 : P := (.l (.l (.r (.r (.l (.l .h))))))
abbrev p76 : P := (.r (.l (.r (.r (.l (.l .h))))))
abbrev p77 : P := (.l (.r (.r (.r (.l (.l .h))))))
abbrev p78 : P := (.r (.r (.r (.r (.l (.l .h))))))
abbrev p79 : P := (.l (.l (.l (.l (.r (.l .h))))))
abbrev p80 : P := (.r (.l (.l (.l (.r (.l .h))))))
abbrev p81 : P := (.l (.r (.l (.l (.r (.l .h))))))
abbrev p82 : P := (.r (.r (.l (.l (.r (.l .h))))))
abbrev p83 : P := (.l (.l (.r (.l (.r (.l .h))))))
abbrev p84 : P := (.r (.l (.r (.l (.r (.l .h))))))
abbrev p85 : P := (.l (.r (.r (.l (.r (.l .h))))))
abbrev p86 : P := (.r (.r (.r (.l (.r (.l .h))))))
abbrev p87 : P := (.l (.l (.l (.r (.r (.l .h))))))
abbrev p88 : P := (.r (.l (.l (.r (.r (.l .h))))))
abbrev p89 : P := (.l (.r (.l (.r (.r (.l .h))))))
abbrev p90 : P := (.r (.r (.l (.r (.r (.l .h))))))
abbrev p91 : P := (.l (.l (.r (.r (.r (.l .h))))))
abbrev p92 : P := (.r (.l (.r (.r (.r (.l .h))))))
abbrev p93 : P := (.l (.r (.r (.r (.r (.l .h))))))
abbrev p94 : P := (.r (.r (.r (.r (.r (.l .h))))))
abbrev p95 : P := (.l (.l (.l (.l (.l (.r .h))))))
abbrev p96 : P := (.r (.l (.l (.l (.l (.r .h))))))
abbrev p97 : P := (.l (.r (.l (.l (.l (.r .h))))))
abbrev p98 : P := (.r (.r (.l (.l (.l (.r .h))))))
abbrev p99 : P := (.l (.l (.r (.l (.l (.r .h))))))
abbrev p100 : P := (.r (.l (.r (.l (.l (.r .h))))))
abbrev p101 : P := (.l (.r (.r (.l (.l (.r .h))))))
abbrev p102 : P := (.r (.r (.r (.l (.l (.r .h))))))
abbrev p103 : P := (.l (.l (.l (.r (.l (.r .h))))))
abbrev p104 : P := (.r (.l (.l (.r (.l (.r .h))))))
abbrev p105 : P := (.l (.r (.l (.r (.l (.r .h))))))
abbrev p106 : P := (.r (.r (.l (.r (.l (.r .h))))))
abbrev p107 : P := (.l (.l (.r (.r (.l (.r .h))))))
abbrev p108 : P := (.r (.l (.r (.r (.l (.r .h))))))
abbrev p109 : P := (.l (.r (.r (.r (.l (.r .h))))))
abbrev p110 : P := (.r (.r (.r (.r (.l (.r .h))))))
abbrev p111 : P := (.l (.l (.l (.l (.r (.r .h))))))
abbrev p112 : P := (.r (.l (.l (.l (.r (.r .h))))))
abbrev p113 : P := (.l (.r (.l (.l (.r (.r .h))))))
abbrev p114 : P := (.r (.r (.l (.l (.r (.r .h))))))
abbrev p115 : P := (.l (.l (.r (.l (.r (.r .h))))))
abbrev p116 : P := (.r (.l (.r (.l (.r (.r .h))))))
abbrev p117 : P := (.l (.r (.r (.l (.r (.r .h))))))
abbrev p118 : P := (.r (.r (.r (.l (.r (.r .h))))))
abbrev p119 : P := (.l (.l (.l (.r (.r (.r .h))))))
abbrev p120 : P := (.r (.l (.l (.r (.r (.r .h))))))
abbrev p121 : P := (.l (.r (.l (.r (.r (.r .h))))))
abbrev p122 : P := (.r (.r (.l (.r (.r (.r .h))))))
abbrev p123 : P := (.l (.l (.r (.r (.r (.r .h))))))
abbrev p124 : P := (.r (.l (.r (.r (.r (.r .h))))))
abbrev p125 : P := (.l (.r (.r (.r (.r (.r .h))))))
abbrev p126 : P := (.r (.r (.r (.r (.r (.r .h))))))
abbrev p127 : P := (.l (.l (.l (.l (.l (.l (.l .h)))))))
abbrev p128 : P := (.r (.l (.l (.l (.l (.l (.l .h)))))))
abbrev p129 : P := (.l (.r (.l (.l (.l (.l (.l .h)))))))
abbrev p130 : P := (.r (.r (.l (.l (.l (.l (.l .h)))))))
abbrev p131 : P := (.l (.l (.r (.l (.l (.l (.l .h)))))))
abbrev p132 : P := (.r (.l (.r (.l (.l (.l (.l .h)))))))
abbrev p133 : P := (.l (.r (.r (.l (.l (.l (.l .h)))))))
abbrev p134 : P := (.r (.r (.r (.l (.l (.l (.l .h)))))))
abbrev p135 : P := (.l (.l (.l (.r (.l (.l (.l .h)))))))
abbrev p136 : P := (.r (.l (.l (.r (.l (.l (.l .h)))))))
abbrev p137 : P := (.l (.r (.l (.r (.l (.l (.l .h)))))))
abbrev p138 : P := (.r (.r (.l (.r (.l (.l (.l .h)))))))
abbrev p139 : P := (.l (.l (.r (.r (.l (.l (.l .h)))))))
abbrev p140 : P := (.r (.l (.r (.r (.l (.l (.l .h)))))))
abbrev p141 : P := (.l (.r (.r (.r (.l (.l (.l .h)))))))
abbrev p142 : P := (.r (.r (.r (.r (.l (.l (.l .h)))))))
abbrev p143 : P := (.l (.l (.l (.l (.r (.l (.l .h)))))))
abbrev p144 : P := (.r (.l (.l (.l (.r (.l (.l .h)))))))
abbrev p145 : P := (.l (.r (.l (.l (.r (.l (.l .h)))))))
abbrev p146 : P := (.r (.r (.l (.l (.r (.l (.l .h)))))))
abbrev p147 : P := (.l (.l (.r (.l (.r (.l (.l .h)))))))
abbrev p148 : P := (.r (.l (.r (.l (.r (.l (.l .h)))))))
abbrev p149 : P := (.l (.r (.r (.l (.r (.l (.l .h)))))))
abbrev p150 : P := (.r (.r (.r (.l (.r (.l (.l .h)))))))
abbrev p151 : P := (.l (.l (.l (.r (.r (.l (.l .h)))))))
abbrev p152 : P := (.r (.l (.l (.r (.r (.l (.l .h)))))))
abbrev p153 : P := (.l (.r (.l (.r (.r (.l (.l .h)))))))
abbrev p154 : P := (.r (.r (.l (.r (.r (.l (.l .h)))))))
abbrev p155 : P := (.l (.l (.r (.r (.r (.l (.l .h)))))))
abbrev p156 : P := (.r (.l (.r (.r (.r (.l (.l .h)))))))
abbrev p157 : P := (.l (.r (.r (.r (.r (.l (.l .h)))))))
abbrev p158 : P := (.r (.r (.r (.r (.r (.l (.l .h)))))))
abbrev p159 : P := (.l (.l (.l (.l (.l (.r (.l .h)))))))
abbrev p160 : P := (.r (.l (.l (.l (.l (.r (.l .h)))))))
abbrev p161 : P := (.l (.r (.l (.l (.l (.r (.l .h)))))))
abbrev p162 : P := (.r (.r (.l (.l (.l (.r (.l .h)))))))
abbrev p163 : P := (.l (.l (.r (.l (.l (.r (.l .h)))))))
abbrev p164 : P := (.r (.l (.r (.l (.l (.r (.l .h)))))))
abbrev p165 : P := (.l (.r (.r (.l (.l (.r (.l .h)))))))
abbrev p166 : P := (.r (.r (.r (.l (.l (.r (.l .h)))))))
abbrev p167 : P := (.l (.l (.l (.r (.l (.r (.l .h)))))))
abbrev p168 : P := (.r (.l (.l (.r (.l (.r (.l .h)))))))
abbrev p169 : P := (.l (.r (.l (.r (.l (.r (.l .h)))))))
abbrev p170 : P := (.r (.r (.l (.r (.l (.r (.l .h)))))))
abbrev p171 : P := (.l (.l (.r (.r (.l (.r (.l .h)))))))
abbrev p172 : P := (.r (.l (.r (.r (.l (.r (.l .h)))))))
abbrev p173 : P := (.l (.r (.r (.r (.l (.r (.l .h)))))))
abbrev p174 : P := (.r (.r (.r (.r (.l (.r (.l .h)))))))
abbrev p175 : P := (.l (.l (.l (.l (.r (.r (.l .h)))))))
abbrev p176 : P := (.r (.l (.l (.l (.r (.r (.l .h)))))))
abbrev p177 : P := (.l (.r (.l (.l (.r (.r (.l .h)))))))
abbrev p178 : P := (.r (.r (.l (.l (.r (.r (.l .h)))))))
abbrev p179 : P := (.l (.l (.r (.l (.r (.r (.l .h)))))))
abbrev p180 : P := (.r (.l (.r (.l (.r (.r (.l .h)))))))
abbrev p181 : P := (.l (.r (.r (.l (.r (.r (.l .h)))))))
abbrev p182 : P := (.r (.r (.r (.l (.r (.r (.l .h)))))))
abbrev p183 : P := (.l (.l (.l (.r (.r (.r (.l .h)))))))
abbrev p184 : P := (.r (.l (.l (.r (.r (.r (.l .h)))))))
abbrev p185 : P := (.l (.r (.l (.r (.r (.r (.l .h)))))))
abbrev p186 : P := (.r (.r (.l (.r (.r (.r (.l .h)))))))
abbrev p187 : P := (.l (.l (.r (.r (.r (.r (.l .h)))))))
abbrev p188 : P := (.r (.l (.r (.r (.r (.r (.l .h)))))))
abbrev p189 : P := (.l (.r (.r (.r (.r (.r (.l .h)))))))
abbrev p190 : P := (.r (.r (.r (.r (.r (.r (.l .h)))))))
abbrev p191 : P := (.l (.l (.l (.l (.l (.l (.r .h)))))))
abbrev p192 : P := (.r (.l (.l (.l (.l (.l (.r .h)))))))
abbrev p193 : P := (.l (.r (.l (.l (.l (.l (.r .h)))))))
abbrev p194 : P := (.r (.r (.l (.l (.l (.l (.r .h)))))))
abbrev p195 : P := (.l (.l (.r (.l (.l (.l (.r .h)))))))
abbrev p196 : P := (.r (.l (.r (.l (.l (.l (.r .h)))))))
abbrev p197 : P := (.l (.r (.r (.l (.l (.l (.r .h)))))))
abbrev p198 : P := (.r (.r (.r (.l (.l (.l (.r .h)))))))
abbrev p199 : P := (.l (.l (.l (.r (.l (.l (.r .h)))))))
abbrev p200 : P := (.r (.l (.l (.r (.l (.l (.r .h)))))))
abbrev p201 : P := (.l (.r (.l (.r (.l (.l (.r .h)))))))
abbrev p202 : P := (.r (.r (.l (.r (.l (.l (.r .h)))))))
abbrev p203 : P := (.l (.l (.r (.r (.l (.l (.r .h)))))))
abbrev p204 : P := (.r (.l (.r (.r (.l (.l (.r .h)))))))
abbrev p205 : P := (.l (.r (.r (.r (.l (.l (.r .h)))))))
abbrev p206 : P := (.r (.r (.r (.r (.l (.l (.r .h)))))))
abbrev p207 : P := (.l (.l (.l (.l (.r (.l (.r .h)))))))
abbrev p208 : P := (.r (.l (.l (.l (.r (.l (.r .h)))))))
abbrev p209 : P := (.l (.r (.l (.l (.r (.l (.r .h)))))))
abbrev p210 : P := (.r (.r (.l (.l (.r (.l (.r .h)))))))
abbrev p211 : P := (.l (.l (.r (.l (.r (.l (.r .h)))))))
abbrev p212 : P := (.r (.l (.r (.l (.r (.l (.r .h)))))))
abbrev p213 : P := (.l (.r (.r (.l (.r (.l (.r .h)))))))
abbrev p214 : P := (.r (.r (.r (.l (.r (.l (.r .h)))))))
abbrev p215 : P := (.l (.l (.l (.r (.r (.l (.r .h)))))))
abbrev p216 : P := (.r (.l (.l (.r (.r (.l (.r .h)))))))
abbrev p217 : P := (.l (.r (.l (.r (.r (.l (.r .h)))))))
abbrev p218 : P := (.r (.r (.l (.r (.r (.l (.r .h)))))))
abbrev p219 : P := (.l (.l (.r (.r (.r (.l (.r .h)))))))
abbrev p220 : P := (.r (.l (.r (.r (.r (.l (.r .h)))))))
abbrev p221 : P := (.l (.r (.r (.r (.r (.l (.r .h)))))))
abbrev p222 : P := (.r (.r (.r (.r (.r (.l (.r .h)))))))
abbrev p223 : P := (.l (.l (.l (.l (.l (.r (.r .h)))))))
abbrev p224 : P := (.r (.l (.l (.l (.l (.r (.r .h)))))))
abbrev p225 : P := (.l (.r (.l (.l (.l (.r (.r .h)))))))
abbrev p226 : P := (.r (.r (.l (.l (.l (.r (.r .h)))))))
abbrev p227 : P := (.l (.l (.r (.l (.l (.r (.r .h)))))))
abbrev p228 : P := (.r (.l (.r (.l (.l (.r (.r .h)))))))
abbrev p229 : P := (.l (.r (.r (.l (.l (.r (.r .h)))))))
abbrev p230 : P := (.r (.r (.r (.l (.l (.r (.r .h)))))))
abbrev p231 : P := (.l (.l (.l (.r (.l (.r (.r .h)))))))
abbrev p232 : P := (.r (.l (.l (.r (.l (.r (.r .h)))))))
abbrev p233 : P := (.l (.r (.l (.r (.l (.r (.r .h)))))))
abbrev p234 : P := (.r (.r (.l (.r (.l (.r (.r .h)))))))
abbrev p235 : P := (.l (.l (.r (.r (.l (.r (.r .h)))))))
abbrev p236 : P := (.r (.l (.r (.r (.l (.r (.r .h)))))))
abbrev p237 : P := (.l (.r (.r (.r (.l (.r (.r .h)))))))
abbrev p238 : P := (.r (.r (.r (.r (.l (.r (.r .h)))))))
abbrev p239 : P := (.l (.l (.l (.l (.r (.r (.r .h)))))))
abbrev p240 : P := (.r (.l (.l (.l (.r (.r (.r .h)))))))
abbrev p241 : P := (.l (.r (.l (.l (.r (.r (.r .h)))))))
abbrev p242 : P := (.r (.r (.l (.l (.r (.r (.r .h)))))))
abbrev p243 : P := (.l (.l (.r (.l (.r (.r (.r .h)))))))
abbrev p244 : P := (.r (.l (.r (.l (.r (.r (.r .h)))))))
abbrev p245 : P := (.l (.r (.r (.l (.r (.r (.r .h)))))))
abbrev p246 : P := (.r (.r (.r (.l (.r (.r (.r .h)))))))
abbrev p247 : P := (.l (.l (.l (.r (.r (.r (.r .h)))))))
abbrev p248 : P := (.r (.l (.l (.r (.r (.r (.r .h)))))))
abbrev p249 : P := (.l (.r (.l (.r (.r (.r (.r .h)))))))
abbrev p250 : P := (.r (.r (.l (.r (.r (.r (.r .h)))))))
abbrev p251 : P := (.l (.l (.r (.r (.r (.r (.r .h)))))))
abbrev p252 : P := (.r (.l (.r (.r (.r (.r (.r .h)))))))
abbrev p253 : P := (.l (.r (.r (.r (.r (.r (.r .h)))))))
abbrev p254 : P := (.r (.r (.r (.r (.r (.r (.r .h)))))))
abbrev p255 : P := (.l (.l (.l (.l (.l (.l (.l (.l .h))))))))
abbrev p256 : P := (.r (.l (.l (.l (.l (.l (.l (.l .h))))))))
abbrev p257 : P := (.l (.r (.l (.l (.l (.l (.l (.l .h))))))))
abbrev p258 : P := (.r (.r (.l (.l (.l (.l (.l (.l .h))))))))
abbrev p259 : P := (.l (.l (.r (.l (.l (.l (.l (.l .h))))))))
abbrev p260 : P := (.r (.l (.r (.l (.l (.l (.l (.l .h))))))))
abbrev p261 : P := (.l (.r (.r (.l (.l (.l (.l (.l .h))))))))
abbrev p262 : P := (.r (.r (.r (.l (.l (.l (.l (.l .h))))))))
abbrev p263 : P := (.l (.l (.l (.r (.l (.l (.l (.l .h))))))))
abbrev p264 : P := (.r (.l (.l (.r (.l (.l (.l (.l .h))))))))
abbrev p265 : P := (.l (.r (.l (.r (.l (.l (.l (.l .h))))))))
abbrev p266 : P := (.r (.r (.l (.r (.l (.l (.l (.l .h))))))))
abbrev p267 : P := (.l (.l (.r (.r (.l (.l (.l (.l .h))))))))
abbrev p268 : P := (.r (.l (.r (.r (.l (.l (.l (.l .h))))))))
abbrev p269 : P := (.l (.r (.r (.r (.l (.l (.l (.l .h))))))))
abbrev p270 : P := (.r (.r (.r (.r (.l (.l (.l (.l .h))))))))
abbrev p271 : P := (.l (.l (.l (.l (.r (.l (.l (.l .h))))))))
abbrev p272 : P := (.r (.l (.l (.l (.r (.l (.l (.l .h))))))))
abbrev p273 : P := (.l (.r (.l (.l (.r (.l (.l (.l .h))))))))
abbrev p274 : P := (.r (.r (.l (.l (.r (.l (.l (.l .h))))))))
abbrev p275 : P := (.l (.l (.r (.l (.r (.l (.l (.l .h))))))))
abbrev p276 : P := (.r (.l (.r (.l (.r (.l (.l (.l .h))))))))
abbrev p277 : P := (.l (.r (.r (.l (.r (.l (.l (.l .h))))))))
abbrev p278 : P := (.r (.r (.r (.l (.r (.l (.l (.l .h))))))))
abbrev p279 : P := (.l (.l (.l (.r (.r (.l (.l (.l .h))))))))
abbrev p280 : P := (.r (.l (.l (.r (.r (.l (.l (.l .h))))))))
abbrev p281 : P := (.l (.r (.l (.r (.r (.l (.l (.l .h))))))))
abbrev p282 : P := (.r (.r (.l (.r (.r (.l (.l (.l .h))))))))
abbrev p283 : P := (.l (.l (.r (.r (.r (.l (.l (.l .h))))))))
abbrev p284 : P := (.r (.l (.r (.r (.r (.l (.l (.l .h))))))))
abbrev p285 : P := (.l (.r (.r (.r (.r (.l (.l (.l .h))))))))
abbrev p286 : P := (.r (.r (.r (.r (.r (.l (.l (.l .h))))))))
abbrev p287 : P := (.l (.l (.l (.l (.l (.r (.l (.l .h))))))))
abbrev p288 : P := (.r (.l (.l (.l (.l (.r (.l (.l .h))))))))
abbrev p289 : P := (.l (.r (.l (.l (.l (.r (.l (.l .h))))))))
abbrev p290 : P := (.r (.r (.l (.l (.l (.r (.l (.l .h))))))))
abbrev p291 : P := (.l (.l (.r (.l (.l (.r (.l (.l .h))))))))
abbrev p292 : P := (.r (.l (.r (.l (.l (.r (.l (.l .h))))))))
abbrev p293 : P := (.l (.r (.r (.l (.l (.r (.l (.l .h))))))))
abbrev p294 : P := (.r (.r (.r (.l (.l (.r (.l (.l .h))))))))
abbrev p295 : P := (.l (.l (.l (.r (.l (.r (.l (.l .h))))))))
abbrev p296 : P := (.r (.l (.l (.r (.l (.r (.l (.l .h))))))))
abbrev p297 : P := (.l (.r (.l (.r (.l (.r (.l (.l .h))))))))
abbrev p298 : P := (.r (.r (.l (.r (.l (.r (.l (.l .h))))))))
abbrev p299 : P := (.l (.l (.r (.r (.l (.r (.l (.l .h))))))))
abbrev p300 : P := (.r (.l (.r (.r (.l (.r (.l (.l .h))))))))
abbrev p301 : P := (.l (.r (.r (.r (.l (.r (.l (.l .h))))))))
abbrev p302 : P := (.r (.r (.r (.r (.l (.r (.l (.l .h))))))))
abbrev p303 : P := (.l (.l (.l (.l (.r (.r (.l (.l .h))))))))
abbrev p304 : P := (.r (.l (.l (.l (.r (.r (.l (.l .h))))))))
abbrev p305 : P := (.l (.r (.l (.l (.r (.r (.l (.l .h))))))))
abbrev p306 : P := (.r (.r (.l (.l (.r (.r (.l (.l .h))))))))
abbrev p307 : P := (.l (.l (.r (.l (.r (.r (.l (.l .h))))))))
abbrev p308 : P := (.r (.l (.r (.l (.r (.r (.l (.l .h))))))))
abbrev p309 : P := (.l (.r (.r (.l (.r (.r (.l (.l .h))))))))
abbrev p310 : P := (.r (.r (.r (.l (.r (.r (.l (.l .h))))))))
abbrev p311 : P := (.l (.l (.l (.r (.r (.r (.l (.l .h))))))))
abbrev p312 : P := (.r (.l (.l (.r (.r (.r (.l (.l .h))))))))
abbrev p313 : P := (.l (.r (.l (.r (.r (.r (.l (.l .h))))))))
abbrev p314 : P := (.r (.r (.l (.r (.r (.r (.l (.l .h))))))))
abbrev p315 : P := (.l (.l (.r (.r (.r (.r (.l (.l .h))))))))
abbrev p316 : P := (.r (.l (.r (.r (.r (.r (.l (.l .h))))))))
abbrev p317 : P := (.l (.r (.r (.r (.r (.r (.l (.l .h))))))))
abbrev p318 : P := (.r (.r (.r (.r (.r (.r (.l (.l .h))))))))
abbrev p319 : P := (.l (.l (.l (.l (.l (.l (.r (.l .h))))))))
abbrev p320 : P := (.r (.l (.l (.l (.l (.l (.r (.l .h))))))))
abbrev p321 : P := (.l (.r (.l (.l (.l (.l (.r (.l .h))))))))
abbrev p322 : P := (.r (.r (.l (.l (.l (.l (.r (.l .h))))))))
abbrev p323 : P := (.l (.l (.r (.l (.l (.l (.r (.l .h))))))))
abbrev p324 : P := (.r (.l (.r (.l (.l (.l (.r (.l .h))))))))
abbrev p325 : P := (.l (.r (.r (.l (.l (.l (.r (.l .h))))))))
abbrev p326 : P := (.r (.r (.r (.l (.l (.l (.r (.l .h))))))))
abbrev p327 : P := (.l (.l (.l (.r (.l (.l (.r (.l .h))))))))
abbrev p328 : P := (.r (.l (.l (.r (.l (.l (.r (.l .h))))))))
abbrev p329 : P := (.l (.r (.l (.r (.l (.l (.r (.l .h))))))))
abbrev p330 : P := (.r (.r (.l (.r (.l (.l (.r (.l .h))))))))
abbrev p331 : P := (.l (.l (.r (.r (.l (.l (.r (.l .h))))))))
abbrev p332 : P := (.r (.l (.r (.r (.l (.l (.r (.l .h))))))))
abbrev p333 : P := (.l (.r (.r (.r (.l (.l (.r (.l .h))))))))
abbrev p334 : P := (.r (.r (.r (.r (.l (.l (.r (.l .h))))))))
abbrev p335 : P := (.l (.l (.l (.l (.r (.l (.r (.l .h))))))))
abbrev p336 : P := (.r (.l (.l (.l (.r (.l (.r (.l .h))))))))
abbrev p337 : P := (.l (.r (.l (.l (.r (.l (.r (.l .h))))))))
abbrev p338 : P := (.r (.r (.l (.l (.r (.l (.r (.l .h))))))))
abbrev p339 : P := (.l (.l (.r (.l (.r (.l (.r (.l .h))))))))
abbrev p340 : P := (.r (.l (.r (.l (.r (.l (.r (.l .h))))))))
abbrev p341 : P := (.l (.r (.r (.l (.r (.l (.r (.l .h))))))))
abbrev p342 : P := (.r (.r (.r (.l (.r (.l (.r (.l .h))))))))
abbrev p343 : P := (.l (.l (.l (.r (.r (.l (.r (.l .h))))))))
abbrev p344 : P := (.r (.l (.l (.r (.r (.l (.r (.l .h))))))))
abbrev p345 : P := (.l (.r (.l (.r (.r (.l (.r (.l .h))))))))
abbrev p346 : P := (.r (.r (.l (.r (.r (.l (.r (.l .h))))))))
abbrev p347 : P := (.l (.l (.r (.r (.r (.l (.r (.l .h))))))))
abbrev p348 : P := (.r (.l (.r (.r (.r (.l (.r (.l .h))))))))
abbrev p349 : P := (.l (.r (.r (.r (.r (.l (.r (.l .h))))))))
abbrev p350 : P := (.r (.r (.r (.r (.r (.l (.r (.l .h))))))))
abbrev p351 : P := (.l (.l (.l (.l (.l (.r (.r (.l .h))))))))
abbrev p352 : P := (.r (.l (.l (.l (.l (.r (.r (.l .h))))))))
abbrev p353 : P := (.l (.r (.l (.l (.l (.r (.r (.l .h))))))))
abbrev p354 : P := (.r (.r (.l (.l (.l (.r (.r (.l .h))))))))
abbrev p355 : P := (.l (.l (.r (.l (.l (.r (.r (.l .h))))))))
abbrev p356 : P := (.r (.l (.r (.l (.l (.r (.r (.l .h))))))))
abbrev p357 : P := (.l (.r (.r (.l (.l (.r (.r (.l .h))))))))
abbrev p358 : P := (.r (.r (.r (.l (.l (.r (.r (.l .h))))))))
abbrev p359 : P := (.l (.l (.l (.r (.l (.r (.r (.l .h))))))))
abbrev p360 : P := (.r (.l (.l (.r (.l (.r (.r (.l .h))))))))
abbrev p361 : P := (.l (.r (.l (.r (.l (.r (.r (.l .h))))))))
abbrev p362 : P := (.r (.r (.l (.r (.l (.r (.r (.l .h))))))))
abbrev p363 : P := (.l (.l (.r (.r (.l (.r (.r (.l .h))))))))
abbrev p364 : P := (.r (.l (.r (.r (.l (.r (.r (.l .h))))))))
abbrev p365 : P := (.l (.r (.r (.r (.l (.r (.r (.l .h))))))))
abbrev p366 : P := (.r (.r (.r (.r (.l (.r (.r (.l .h))))))))
abbrev p367 : P := (.l (.l (.l (.l (.r (.r (.r (.l .h))))))))
abbrev p368 : P := (.r (.l (.l (.l (.r (.r (.r (.l .h))))))))
abbrev p369 : P := (.l (.r (.l (.l (.r (.r (.r (.l .h))))))))
abbrev p370 : P := (.r (.r (.l (.l (.r (.r (.r (.l .h))))))))
abbrev p371 : P := (.l (.l (.r (.l (.r (.r (.r (.l .h))))))))
abbrev p372 : P := (.r (.l (.r (.l (.r (.r (.r (.l .h))))))))
abbrev p373 : P := (.l (.r (.r (.l (.r (.r (.r (.l .h))))))))
abbrev p374 : P := (.r (.r (.r (.l (.r (.r (.r (.l .h))))))))
abbrev p375 : P := (.l (.l (.l (.r (.r (.r (.r (.l .h))))))))
abbrev p376 : P := (.r (.l (.l (.r (.r (.r (.r (.l .h))))))))
abbrev p377 : P := (.l (.r (.l (.r (.r (.r (.r (.l .h))))))))
abbrev p378 : P := (.r (.r (.l (.r (.r (.r (.r (.l .h))))))))
abbrev p379 : P := (.l (.l (.r (.r (.r (.r (.r (.l .h))))))))
abbrev p380 : P := (.r (.l (.r (.r (.r (.r (.r (.l .h))))))))
abbrev p381 : P := (.l (.r (.r (.r (.r (.r (.r (.l .h))))))))
abbrev p382 : P := (.r (.r (.r (.r (.r (.r (.r (.l .h))))))))
abbrev p383 : P := (.l (.l (.l (.l (.l (.l (.l (.r .h))))))))
abbrev p384 : P := (.r (.l (.l (.l (.l (.l (.l (.r .h))))))))
abbrev p385 : P := (.l (.r (.l (.l (.l (.l (.l (.r .h))))))))
abbrev p386 : P := (.r (.r (.l (.l (.l (.l (.l (.r .h))))))))
abbrev p387 : P := (.l (.l (.r (.l (.l (.l (.l (.r .h))))))))
abbrev p388 : P := (.r (.l (.r (.l (.l (.l (.l (.r .h))))))))
abbrev p389 : P := (.l (.r (.r (.l (.l (.l (.l (.r .h))))))))
abbrev p390 : P := (.r (.r (.r (.l (.l (.l (.l (.r .h))))))))
abbrev p391 : P := (.l (.l (.l (.r (.l (.l (.l (.r .h))))))))
abbrev p392 : P := (.r (.l (.l (.r (.l (.l (.l (.r .h))))))))
abbrev p393 : P := (.l (.r (.l (.r (.l (.l (.l (.r .h))))))))
abbrev p394 : P := (.r (.r (.l (.r (.l (.l (.l (.r .h))))))))
abbrev p395 : P := (.l (.l (.r (.r (.l (.l (.l (.r .h))))))))
abbrev p396 : P := (.r (.l (.r (.r (.l (.l (.l (.r .h))))))))
abbrev p397 : P := (.l (.r (.r (.r (.l (.l (.l (.r .h))))))))
abbrev p398 : P := (.r (.r (.r (.r (.l (.l (.l (.r .h))))))))
abbrev p399 : P := (.l (.l (.l (.l (.r (.l (.l (.r .h))))))))
abbrev p400 : P := (.r (.l (.l (.l (.r (.l (.l (.r .h))))))))
abbrev p401 : P := (.l (.r (.l (.l (.r (.l (.l (.r .h))))))))
abbrev p402 : P := (.r (.r (.l (.l (.r (.l (.l (.r .h))))))))
abbrev p403 : P := (.l (.l (.r (.l (.r (.l (.l (.r .h))))))))
abbrev p404 : P := (.r (.l (.r (.l (.r (.l (.l (.r .h))))))))
abbrev p405 : P := (.l (.r (.r (.l (.r (.l (.l (.r .h))))))))
abbrev p406 : P := (.r (.r (.r (.l (.r (.l (.l (.r .h))))))))
abbrev p407 : P := (.l (.l (.l (.r (.r (.l (.l (.r .h))))))))
abbrev p408 : P := (.r (.l (.l (.r (.r (.l (.l (.r .h))))))))
abbrev p409 : P := (.l (.r (.l (.r (.r (.l (.l (.r .h))))))))
abbrev p410 : P := (.r (.r (.l (.r (.r (.l (.l (.r .h))))))))
abbrev p411 : P := (.l (.l (.r (.r (.r (.l (.l (.r .h))))))))
abbrev p412 : P := (.r (.l (.r (.r (.r (.l (.l (.r .h))))))))
abbrev p413 : P := (.l (.r (.r (.r (.r (.l (.l (.r .h))))))))
abbrev p414 : P := (.r (.r (.r (.r (.r (.l (.l (.r .h))))))))
abbrev p415 : P := (.l (.l (.l (.l (.l (.r (.l (.r .h))))))))
abbrev p416 : P := (.r (.l (.l (.l (.l (.r (.l (.r .h))))))))
abbrev p417 : P := (.l (.r (.l (.l (.l (.r (.l (.r .h))))))))
abbrev p418 : P := (.r (.r (.l (.l (.l (.r (.l (.r .h))))))))
abbrev p419 : P := (.l (.l (.r (.l (.l (.r (.l (.r .h))))))))
abbrev p420 : P := (.r (.l (.r (.l (.l (.r (.l (.r .h))))))))
abbrev p421 : P := (.l (.r (.r (.l (.l (.r (.l (.r .h))))))))
abbrev p422 : P := (.r (.r (.r (.l (.l (.r (.l (.r .h))))))))
abbrev p423 : P := (.l (.l (.l (.r (.l (.r (.l (.r .h))))))))
abbrev p424 : P := (.r (.l (.l (.r (.l (.r (.l (.r .h))))))))
abbrev p425 : P := (.l (.r (.l (.r (.l (.r (.l (.r .h))))))))
end Go.Am.Pz
