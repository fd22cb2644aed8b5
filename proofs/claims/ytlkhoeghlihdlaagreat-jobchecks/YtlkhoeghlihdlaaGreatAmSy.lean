import Derived.Test.YtlkhoeghlihdlaaGreatAmOp12
import Derived.Test.YtlkhoeghlihdlaaGreatAmDrw3
namespace Go.Am
open Go.RowKit
set_option autoImplicit false
set_option linter.unusedSimpArgs false
set_option linter.unusedVariables false
/-! runs over unknown whole numbers and bools: slots hold expressions -/
inductive Ex where
  | v (n : Nat) | c (w : W) | bin (o : BinOp) (a b : Ex) | un (o : UnOp) (a : Ex) | ite (c a b : Ex)
  deriving Inhabited
inductive Ty where | i | b
  deriving DecidableEq, Inhabited
def outW (x : Option V) : W := match x with | some (.w x) => x | _ => .nilp
def iteW (c a b : W) : W := match c with | .bool t => bif t then a else b | _ => .nilp
noncomputable def dn (ρ : Nat → W) : Ex → W
  | .v n => ρ n
  | .c w => w
  | .bin o a b => outW (bopW o (dn ρ a) (dn ρ b))
  | .un o a => outW (unW o (dn ρ a))
  | .ite c a b => iteW (dn ρ c) (dn ρ a) (dn ρ b)
def hasT (t : Ty) (w : W) : Prop := match t with | .i => ∃ z, w = .int .i64 z | .b => ∃ b, w = .bool b
def tyB (o : BinOp) : Option Ty := match o with | .add => some .i | .sub => some .i | .mul => some .i | .eql => some .b | .neq => some .b | .lss => some .b | .leq => some .b | .gtr => some .b | .geq => some .b | _ => none
def nz (e : Ex) : Bool := match e with | .c (.int .i64 z) => !(decide (z = 0)) | _ => false
def tyC (w : W) : Option Ty := match w with | .int .i64 _ => some .i | .bool _ => some .b | _ => none
def isTy (t : Ty) (x : Option Ty) : Bool := match x with | some u => decide (u = t) | none => false
def tyO (o : BinOp) (z : Bool) : Option Ty := match o with | .rem => bif z then some .i else none | o => tyB o
def tyU (o : UnOp) (x : Option Ty) : Option Ty := match o with | .not => bif isTy .b x then some .b else none | .neg => bif isTy .i x then some .i else none | _ => none
def ty (τ : Nat → Ty) : Ex → Option Ty
  | .v n => some (τ n)
  | .c w => tyC w
  | .bin o a b => bif isTy .i (ty τ a) && isTy .i (ty τ b) then tyO o (nz b) else none
  | .un o a => tyU o (ty τ a)
  | .ite c a b => bif isTy .b (ty τ c) then (match ty τ a with | some t => bif isTy t (ty τ b) then some t else none | none => none) else none
theorem isTy_eq {t : Ty} {x : Option Ty} : isTy t x = true ↔ x = some t := by cases x <;> simp [isTy]
theorem bif_none {α : Type} {b : Bool} {x : Option α} {y : α} : (bif b then x else none) = some y ↔ b = true ∧ x = some y := by cases b <;> simp
theorem bop_ok {o : BinOp} {t : Ty} {a b : Int} (h : tyB o = some t) : ∃ x, bopW o (.int .i64 a) (.int .i64 b) = some (.w x) ∧ hasT t x := by
  cases o <;> simp only [tyB, Option.some.injEq, reduceCtorEq] at h <;> subst h
  · exact ⟨_, bop_add, _, rfl⟩
  · exact ⟨_, bop_sub, _, rfl⟩
  · exact ⟨_, bop_mul, _, rfl⟩
  · exact ⟨_, bop_eql, _, rfl⟩
  · exact ⟨_, bop_neq, _, rfl⟩
  · exact ⟨_, bop_lss, _, rfl⟩
  · exact ⟨_, bop_leq, _, rfl⟩
  · exact ⟨_, bop_gtr, _, rfl⟩
  · exact ⟨_, bop_geq, _, rfl⟩
theorem bop_rem {k : IntKind} {a b : Int} (hb : b ≠ 0) : bopW .rem (.int k a) (.int k b) = some (.w (.int k (a.tmod b))) := by simp [bopW, wInt, bopI, isSh, iop, iInt, hb]
theorem un_neg {k : IntKind} {a : Int} : unW .neg (.int k a) = some (.w (.int k (k.wrap (0 - a)))) := by simp [unW, iInt]
section
variable {ρ : Nat → W} {τ : Nat → Ty} (hρ : ∀ n, hasT (τ n) (ρ n))
include hρ
theorem ty_ok : ∀ (e : Ex) (t : Ty), ty τ e = some t → hasT t (dn ρ e) ∧ (match e with | .bin o a b => ∃ x, bopW o (dn ρ a) (dn ρ b) = some (.w x) | .un o a => ∃ x, unW o (dn ρ a) = some (.w x) | _ => True)
  | .v n, t, h => by cases h; exact ⟨hρ n, trivial⟩
  | .c w, t, h => by
    refine ⟨?_, trivial⟩
    cases w <;> simp only [ty, tyC, reduceCtorEq] at h
    · rename_i k n
      cases k <;> simp only [reduceCtorEq, Option.some.injEq] at h
      subst h; exact ⟨n, rfl⟩
    · simp only [Option.some.injEq] at h; subst h; exact ⟨_, rfl⟩
  | .bin o a b, t, h => by
    obtain ⟨h1, h2⟩ := bif_none.1 h
    simp only [Bool.and_eq_true, isTy_eq] at h1
    obtain ⟨x, ex⟩ := (ty_ok a .i h1.1).1
    obtain ⟨y, ey⟩ := (ty_ok b .i h1.2).1
    have hx : ∃ z, bopW o (dn ρ a) (dn ρ b) = some (.w z) ∧ hasT t z := by
      rw [ex, ey]
      by_cases ho : o = .rem
      · subst ho
        obtain ⟨h3, h4⟩ := bif_none.1 (show (bif nz b then some Ty.i else none) = some t from h2)
        cases h4
        have : y ≠ 0 := by
          unfold nz at h3
          split at h3
          · rename_i z
            have : y = z := by simpa [dn] using ey.symm
            subst this; simpa using h3
          · cases h3
        exact ⟨_, bop_rem this, _, rfl⟩
      · have : tyB o = some t := by unfold tyO at h2; split at h2 <;> first | exact absurd rfl ho | exact h2
        exact bop_ok this
    obtain ⟨z, e1, e2⟩ := hx
    refine ⟨?_, z, e1⟩
    show hasT t (outW (bopW o (dn ρ a) (dn ρ b)))
    rw [e1]; exact e2
  | .un o a, t, h => by
    have h : tyU o (ty τ a) = some t := h
    cases o <;> simp only [tyU, reduceCtorEq, bif_none, isTy_eq, Option.some.injEq] at h
    · obtain ⟨h1, rfl⟩ := h
      obtain ⟨x, ex⟩ := (ty_ok a .i h1).1
      refine ⟨?_, _, by rw [ex]; exact un_neg⟩
      show hasT _ (outW (unW .neg (dn ρ a)))
      rw [ex, un_neg]; exact ⟨_, rfl⟩
    · obtain ⟨h1, rfl⟩ := h
      obtain ⟨x, ex⟩ := (ty_ok a .b h1).1
      refine ⟨?_, _, by rw [ex]; exact un_not⟩
      show hasT _ (outW (unW .not (dn ρ a)))
      rw [ex, un_not]; exact ⟨_, rfl⟩
  | .ite c a b, t, h => by
    refine ⟨?_, trivial⟩
    obtain ⟨h1, h2⟩ := bif_none.1 (show (bif isTy .b (ty τ c) then (match ty τ a with | some t => bif isTy t (ty τ b) then some t else none | none => none) else none) = some t from h)
    split at h2
    · rename_i u hu
      obtain ⟨h3, h4⟩ := bif_none.1 h2
      rw [Option.some.inj h4] at hu h3
      obtain ⟨x, ex⟩ := (ty_ok c .b (isTy_eq.1 h1)).1
      show hasT t (iteW (dn ρ c) (dn ρ a) (dn ρ b))
      rw [ex]
      cases x
      · exact (ty_ok b t (isTy_eq.1 h3)).1
      · exact (ty_ok a t hu).1
    · cases h2
end
noncomputable def mkBin (τ : Nat → Ty) (o : BinOp) (a b : Ex) : Option Ex :=
  match a, b with
  | .c x, .c y => (match bopW o x y with | some (.w z) => some (.c z) | _ => none)
  | a, b => bif (ty τ (.bin o a b)).isSome then some (.bin o a b) else none
noncomputable def mkUn (τ : Nat → Ty) (o : UnOp) (a : Ex) : Option Ex :=
  match a with
  | .c x => (match unW o x with | some (.w z) => some (.c z) | _ => none)
  | a => bif (ty τ (.un o a)).isSome then some (.un o a) else none
def mkIte (τ : Nat → Ty) (e a b : Ex) : Option Ex := bif isTy .b (ty τ e) then some (.ite e a b) else none
def wBeq (x y : W) : Bool := match x, y with | .int j a, .int k b => decide (j = k) && decide (a = b) | .bool a, .bool b => a == b | _, _ => false
theorem wBeq_eq {x y : W} (h : wBeq x y = true) : x = y := by
  cases x <;> cases y <;> simp [wBeq] at h <;> simp [h]
def sameX : Ex → Ex → Bool
  | .v n, .v m => Nat.beq n m
  | .c x, .c y => wBeq x y
  | .bin o a b, .bin o' a' b' => decide (o = o') && (sameX a a' && sameX b b')
  | .un o a, .un o' a' => decide (o = o') && sameX a a'
  | .ite c a b, .ite c' a' b' => sameX c c' && (sameX a a' && sameX b b')
  | _, _ => false
theorem sameX_eq : ∀ {a b : Ex}, sameX a b = true → a = b
  | .v n, .v m, h => by rw [Nat.eq_of_beq_eq_true (show Nat.beq n m = true from h)]
  | .c x, .c y, h => by rw [wBeq_eq (show wBeq x y = true from h)]
  | .bin o a b, .bin o' a' b', h => by simp only [sameX, Bool.and_eq_true, decide_eq_true_eq] at h; rw [h.1, sameX_eq h.2.1, sameX_eq h.2.2]
  | .un o a, .un o' a', h => by simp only [sameX, Bool.and_eq_true, decide_eq_true_eq] at h; rw [h.1, sameX_eq h.2]
  | .ite c a b, .ite c' a' b', h => by simp only [sameX, Bool.and_eq_true] at h; rw [sameX_eq h.1, sameX_eq h.2.1, sameX_eq h.2.2]
  | .v _, .c _, h | .v _, .bin _ _ _, h | .v _, .un _ _, h | .v _, .ite _ _ _, h => by cases h
  | .c _, .v _, h | .c _, .bin _ _ _, h | .c _, .un _ _, h | .c _, .ite _ _ _, h => by cases h
  | .bin _ _ _, .v _, h | .bin _ _ _, .c _, h | .bin _ _ _, .un _ _, h | .bin _ _ _, .ite _ _ _, h => by cases h
  | .un _ _, .v _, h | .un _ _, .c _, h | .un _ _, .bin _ _ _, h | .un _ _, .ite _ _ _, h => by cases h
  | .ite _ _ _, .v _, h | .ite _ _ _, .c _, h | .ite _ _ _, .bin _ _ _, h | .ite _ _ _, .un _ _, h => by cases h
section
variable {ρ : Nat → W} {τ : Nat → Ty}
theorem mkBin_ok (hρ : ∀ n, hasT (τ n) (ρ n)) {o : BinOp} {a b e : Ex} (h : mkBin τ o a b = some e) : bopW o (dn ρ a) (dn ρ b) = some (.w (dn ρ e)) := by
  unfold mkBin at h
  split at h
  · split at h
    · rename_i x y z hz; cases h; exact hz
    · cases h
  · obtain ⟨h1, h2⟩ := bif_none.1 h
    cases h2
    obtain ⟨t, ht⟩ := Option.isSome_iff_exists.1 h1
    obtain ⟨x, hx⟩ := (ty_ok hρ _ t ht).2
    show _ = some (V.w (outW (bopW o (dn ρ a) (dn ρ b))))
    rw [hx]; rfl
theorem mkUn_ok (hρ : ∀ n, hasT (τ n) (ρ n)) {o : UnOp} {a e : Ex} (h : mkUn τ o a = some e) : unW o (dn ρ a) = some (.w (dn ρ e)) := by
  unfold mkUn at h
  split at h
  · split at h
    · rename_i x z hz; cases h; exact hz
    · cases h
  · obtain ⟨h1, h2⟩ := bif_none.1 h
    cases h2
    obtain ⟨t, ht⟩ := Option.isSome_iff_exists.1 h1
    obtain ⟨x, hx⟩ := (ty_ok hρ _ t ht).2
    show _ = some (V.w (outW (unW o (dn ρ a))))
    rw [hx]; rfl
theorem mkIte_ok (hρ : ∀ n, hasT (τ n) (ρ n)) {e a b r : Ex} (h : mkIte τ e a b = some r) : ∃ t, dn ρ e = .bool t ∧ dn ρ r = bif t then dn ρ a else dn ρ b := by
  obtain ⟨h1, h2⟩ := bif_none.1 h
  cases h2
  obtain ⟨t, ht⟩ := (ty_ok hρ _ _ (isTy_eq.1 h1)).1
  exact ⟨t, ht, by show iteW (dn ρ e) _ _ = _; rw [ht]; rfl⟩
end
end Go.Am
namespace Go.Am
open Go.RowKit
set_option autoImplicit false
set_option linter.unusedSimpArgs false
set_option linter.unusedVariables false
inductive Pv where | w (e : Ex) | a (es : List Ex)
  deriving Inhabited
/-- what is known of a slot; g: known where e is c -/
inductive Sv where | p (x : Pv) | g (e : Ex) (c : Bool) (x : Pv)
  deriving Inhabited
structure Ss where
  σ : Tr Sv
  η : Tr (List Ex)
  sz : P
noncomputable def dv (ρ : Nat → W) : Pv → V
  | .w e => .w (dn ρ e)
  | .a es => .a (es.map (dn ρ))
def Sl (ρ : Nat → W) (x : Sv) (o : Option V) : Prop := match x with | .p x => o = some (dv ρ x) | .g e c x => dn ρ e = .bool c → o = some (dv ρ x)
def RSg (ρ : Nat → W) (σ : Tr Sv) (s : S) : Prop := ∀ p x, σ.get p = some x → Sl ρ x (s.get p)
structure RHp (ρ : Nat → W) (η : Tr (List Ex)) (sz : P) (h : H) : Prop where
  row : ∀ b es, η.get b = some es → ∃ T, h.tr.get b = some (.row true T (es.map (dn ρ)))
  sz : h.sz = sz
abbrev Gd := Option (Ex × Bool)
def GdOk (ρ : Nat → W) (gd : Gd) : Prop := ∀ e c, gd = some (e, c) → dn ρ e = .bool c
def rdG (gd : Gd) (e : Ex) (c : Bool) (x : Pv) : Option Pv := match gd with | some (e', c') => bif sameX e e' && (c == c') then some x else none | none => none
def rdO (gd : Gd) (o : Option Sv) : Option Pv := match o with | some (.p x) => some x | some (.g e c x) => rdG gd e c x | none => none
def cst (v : V) : Option Pv := match v with | .w w => some (.w (.c w)) | .a ws => some (.a (ws.map Ex.c)) | .t _ => none
noncomputable def rd (σ : Tr Sv) (gd : Gd) (x : Opd) : Option Pv := match x with | .t p => rdO gd (σ.get p) | .c v => cst v
noncomputable def rds (σ : Tr Sv) (gd : Gd) : List Opd → Option (List Pv)
  | [] => some []
  | x :: xs => bnd (rd σ gd x) fun v => bnd (rds σ gd xs) fun vs => some (v :: vs)
def ptrE (v : Pv) : Option (P × Nat) := match v with | .w (.c (.ptr b o)) => some (b, o) | _ => none
def fncE (v : Pv) : Option P := match v with | .w (.c (.fnc k)) => some k | _ => none
def natI (n : Int) : Option Nat := match n with | .ofNat n => some n | _ => none
def natE (v : Pv) : Option Nat := match v with | .w (.c (.int _ n)) => natI n | _ => none
def wordE (v : Pv) : Option Ex := match v with | .w e => some e | _ => none
def aggE (v : Pv) : Option (List Ex) := match v with | .a es => some es | _ => none
def cellsE (v : Pv) : List Ex := match v with | .w e => [e] | .a es => es
def constB (e : Ex) : Option Bool := match e with | .c (.bool b) => some b | _ => none
def cellE (n : Option Nat) (es : List Ex) : Option Pv := match n with | none => (match es with | e :: _ => some (.w e) | [] => none) | some n => bif Nat.ble n es.length then some (.a (es.take n)) else none
noncomputable def zipI (τ : Nat → Ty) (e : Ex) : List Ex → List Ex → Option (List Ex)
  | [], [] => some []
  | x :: xs, y :: ys => bnd (mkIte τ e x y) fun z => bnd (zipI τ e xs ys) fun zs => some (z :: zs)
  | _, _ => none
noncomputable def mkIteP (τ : Nat → Ty) (e : Ex) (x y : Pv) : Option Pv := match x, y with | .w a, .w b => bnd (mkIte τ e a b) fun r => some (.w r) | .a xs, .a ys => bif isTy .b (ty τ e) then bnd (zipI τ e xs ys) fun r => some (.a r) else none | _, _ => none
noncomputable def eq1 (τ : Nat → Ty) (k : Nat) (x y : Ex) : Option Ex := match k with | 0 => bif isTy .i (ty τ x) && isTy .i (ty τ y) then mkBin τ .eql x y else none | 1 => bif isTy .b (ty τ x) then bnd (constB y) fun b => bif b then some x else mkUn τ .not x else none | _ => none
noncomputable def eqE (τ : Nat → Ty) : List Nat → List Ex → List Ex → Option Ex
  | [], [], [] => some (.c (.bool true))
  | k :: ks, x :: xs, y :: ys => bnd (eq1 τ k x y) fun e => bnd (eqE τ ks xs ys) fun r => mkIte τ e r (.c (.bool false))
  | _, _, _ => none
abbrev Sp := P → List Pv → Option Pv
noncomputable def fillS (σ : Tr Sv) (gd : Gd) : List (Nat × Nat × Opd) → List Ex → Option (List Ex)
  | [], cs => some cs
  | q :: ps, cs => bnd (rd σ gd q.2.2) fun v => bif Nat.beq (cellsE v).length q.2.1 then bnd (splice q.1 (cellsE v) cs) fun cs' => fillS σ gd ps cs' else none
noncomputable def sPick (τ : Nat → Ty) (σ : Tr Sv) (gd : Gd) (e : Ex) (a b : Opd) : Option Pv :=
  match constB e with
  | some t => rd σ gd (bif t then a else b)
  | none => bnd (rd σ (some (e, true)) a) fun x => bnd (rd σ (some (e, false)) b) fun y => mkIteP τ e x y
noncomputable def sA (τ : Nat → Ty) (sp : Sp) (st : Ss) (pu : Bool) (gd : Gd) (a : A) : Option (Option Pv × Ss) :=
  match a with
  | .mv x => bnd (rd st.σ gd x) fun v => some (some v, st)
  | .ld n x => bnd (rd st.σ gd x) fun v => bnd (ptrE v) fun q => bnd (st.η.get q.1) fun es => bnd (cellE n (es.drop q.2)) fun r => some (some r, st)
  | .fad off x => bnd (rd st.σ gd x) fun v => bnd (ptrE v) fun q => some (some (.w (.c (.ptr q.1 (q.2 + off)))), st)
  | .call f xs => bnd (rd st.σ gd f) fun v => bnd (fncE v) fun k => bnd (rds st.σ gd xs) fun vs => bnd (sp k vs) fun r => some (some r, st)
  | .pick c a b => bnd (rd st.σ gd c) fun v => bnd (wordE v) fun e => bnd (sPick τ st.σ gd e a b) fun r => some (some r, st)
  | .bin o x y => bnd (rd st.σ gd x) fun v => bnd (wordE v) fun a => bnd (rd st.σ gd y) fun u => bnd (wordE u) fun b => bnd (mkBin τ o a b) fun r => some (some (.w r), st)
  | .un o x => bnd (rd st.σ gd x) fun v => bnd (wordE v) fun a => bnd (mkUn τ o a) fun r => some (some (.w r), st)
  | .box T x => bif pu then none else bnd (rd st.σ gd x) fun v => some (some (.w (.c (.ptr st.sz 0))), ⟨st.σ, Tr.put (some (cellsE v)) st.sz st.η, st.sz.next⟩)
  | .bld z ps => bnd (fillS st.σ gd ps (z.map Ex.c)) fun cs => some (some (.a cs), st)
  | .st n x y => bif pu then none else bnd (rd st.σ gd x) fun v => bnd (ptrE v) fun q => bnd (rd st.σ gd y) fun u => bnd (st.η.get q.1) fun cs => bif Nat.beq (cellsE u).length n then
      bnd (splice q.2 (cellsE u) cs) fun cs' => some (none, ⟨st.σ, Tr.put (some cs') q.1 st.η, st.sz⟩) else none
  | .o (.idv len z n x i) => bnd (rd st.σ gd x) fun v => bnd (aggE v) fun cs => bnd (rd st.σ gd i) fun u => bnd (natE u) fun j => bif Nat.blt j len then bnd (cellE n (cs.drop (j * z))) fun r => some (some r, st) else none
  | .o (.fld off n x) => bnd (rd st.σ gd x) fun v => bnd (aggE v) fun cs => bnd (cellE n (cs.drop off)) fun r => some (some r, st)
  | .o (.eqs ks neq x y) => bnd (rd st.σ gd x) fun v => bnd (aggE v) fun xs => bnd (rd st.σ gd y) fun u => bnd (aggE u) fun ys => bnd (eqE τ ks xs ys) fun e => bif neq then bnd (mkUn τ .not e) fun r => some (some (.w r), st) else some (some (.w e), st)
  | _ => none
section
variable {ρ : Nat → W} {τ : Nat → Ty} {s s' : S} {h h' : H} {cl : Call} {sp : Sp} {gd : Gd}
theorem rd_ok {σ : Tr Sv} (hs : RSg ρ σ s) (hg : GdOk ρ gd) {x : Opd} {v : Pv} (hx : rd σ gd x = some v) : opd s x = some (dv ρ v) := by
  cases x with
  | t p =>
    have hx : rdO gd (σ.get p) = some v := hx
    show s.get p = _
    cases hp : σ.get p with
    | none => rw [hp] at hx; cases hx
    | some y =>
      rw [hp] at hx
      have hr := hs p y hp
      cases y with
      | p z => cases hx; exact hr
      | g e c z =>
        have hx : rdG gd e c z = some v := hx
        unfold rdG at hx
        split at hx
        · rename_i e' c' _ _
          obtain ⟨h1, h2⟩ := bif_none.1 hx
          cases h2
          simp only [Bool.and_eq_true, beq_iff_eq] at h1
          have he := sameX_eq h1.1
          subst he
          exact hr (by rw [hg e c' rfl, h1.2])
        · cases hx
  | c w =>
    cases w with
    | w w => cases hx; rfl
    | a ws =>
      cases hx
      show some (V.a ws) = some (V.a ((ws.map Ex.c).map (dn ρ)))
      rw [List.map_map]
      have : (dn ρ ∘ Ex.c) = id := rfl
      rw [this, List.map_id]
    | t _ => cases hx
theorem rds_ok {σ : Tr Sv} (hs : RSg ρ σ s) (hg : GdOk ρ gd) : ∀ {xs : List Opd} {vs : List Pv}, rds σ gd xs = some vs → opds s xs = some (vs.map (dv ρ))
  | [], vs, hx => by cases hx; rfl
  | x :: xs, vs, hx => by
    obtain ⟨v, h1, h2⟩ := bnd_eq.1 hx
    obtain ⟨us, h3, h4⟩ := bnd_eq.1 h2
    cases h4
    rw [opds_cons, rd_ok hs hg h1, bnd_some, rds_ok hs hg h3]; rfl
theorem ptrE_eq {v : Pv} {q : P × Nat} (hx : ptrE v = some q) : v = .w (.c (.ptr q.1 q.2)) := by
  unfold ptrE at hx; split at hx <;> cases hx; rfl
theorem fncE_eq {v : Pv} {k : P} (hx : fncE v = some k) : v = .w (.c (.fnc k)) := by
  unfold fncE at hx; split at hx <;> cases hx; rfl
theorem natE_eq {v : Pv} {n : Nat} (hx : natE v = some n) : ∃ k, v = .w (.c (.int k (Int.ofNat n))) := by
  unfold natE at hx; split at hx
  · rename_i k z
    unfold natI at hx; split at hx <;> cases hx; exact ⟨k, rfl⟩
  · cases hx
theorem wordE_eq {v : Pv} {e : Ex} (hx : wordE v = some e) : v = .w e := by unfold wordE at hx; split at hx <;> cases hx; rfl
theorem aggE_eq {v : Pv} {es : List Ex} (hx : aggE v = some es) : v = .a es := by unfold aggE at hx; split at hx <;> cases hx; rfl
theorem constB_eq {e : Ex} {b : Bool} (hx : constB e = some b) : e = .c (.bool b) := by unfold constB at hx; split at hx <;> cases hx; rfl
theorem cellE_ok {n : Option Nat} {es : List Ex} {r : Pv} (hx : cellE n es = some r) : cellN n (es.map (dn ρ)) = some (dv ρ r) := by
  cases n with
  | none => cases es with
    | nil => cases hx
    | cons e es => cases hx; rfl
  | some n =>
    obtain ⟨h1, h2⟩ := bif_none.1 hx
    cases h2
    rw [cell_some, (takeX_eq (r := (es.map (dn ρ)).take n)).2 ⟨by simpa using h1, rfl⟩, bnd_some]
    show _ = some (V.a ((es.take n).map (dn ρ)))
    rw [List.map_take]
theorem cellsE_ok {v : Pv} {β : Type} {f : List W → Option β} : onCells (dv ρ v) f = f ((cellsE v).map (dn ρ)) := by cases v <;> rfl
theorem zipI_ok (hρ : ∀ n, hasT (τ n) (ρ n)) {e : Ex} {t : Bool} (ht : dn ρ e = .bool t) : ∀ {xs ys zs : List Ex}, zipI τ e xs ys = some zs → zs.map (dn ρ) = bif t then xs.map (dn ρ) else ys.map (dn ρ)
  | [], [], zs, hx => by cases hx; cases t <;> rfl
  | x :: xs, y :: ys, zs, hx => by
    obtain ⟨z, h1, h2⟩ := bnd_eq.1 hx
    obtain ⟨zs', h3, h4⟩ := bnd_eq.1 h2
    cases h4
    obtain ⟨t', h5, h6⟩ := mkIte_ok hρ h1
    rw [ht] at h5; cases h5
    have ih := zipI_ok hρ ht h3
    cases t <;> simp_all
  | [], _ :: _, zs, hx => by cases hx
  | _ :: _, [], zs, hx => by cases hx
theorem mkIteP_ok (hρ : ∀ n, hasT (τ n) (ρ n)) {e : Ex} {x y r : Pv} (hx : mkIteP τ e x y = some r) : ∃ t, dn ρ e = .bool t ∧ dv ρ r = bif t then dv ρ x else dv ρ y := by
  unfold mkIteP at hx
  split at hx
  · obtain ⟨z, h1, h2⟩ := bnd_eq.1 hx
    cases h2
    obtain ⟨t, h3, h4⟩ := mkIte_ok hρ h1
    exact ⟨t, h3, by cases t <;> simp_all [dv]⟩
  · obtain ⟨h1, h2⟩ := bif_none.1 hx
    obtain ⟨zs, h3, h4⟩ := bnd_eq.1 h2
    cases h4
    obtain ⟨t, ht⟩ := (ty_ok hρ _ _ (isTy_eq.1 h1)).1
    refine ⟨t, ht, ?_⟩
    have := zipI_ok hρ ht h3
    cases t <;> simp_all [dv]
  · cases hx
theorem eq1_ok (hρ : ∀ n, hasT (τ n) (ρ n)) {k : Nat} {x y e : Ex} (hx : eq1 τ k x y = some e) : ∃ t, dn ρ e = .bool t ∧ eqK k (dn ρ x) (dn ρ y) = some t := by
  unfold eq1 at hx
  split at hx
  · obtain ⟨h1, h2⟩ := bif_none.1 hx
    simp only [Bool.and_eq_true, isTy_eq] at h1
    obtain ⟨a, ea⟩ := (ty_ok hρ _ _ h1.1).1
    obtain ⟨b, eb⟩ := (ty_ok hρ _ _ h1.2).1
    have := mkBin_ok hρ h2
    rw [ea, eb, bop_eql] at this
    refine ⟨decide (a = b), by simpa using (V.w.inj (Option.some.inj this)).symm, ?_⟩
    rw [ea, eb]
    show guardB (decide (IntKind.i64 = IntKind.i64)) _ = _
    rfl
  · obtain ⟨h1, h2⟩ := bif_none.1 hx
    obtain ⟨b, h3, h4⟩ := bnd_eq.1 h2
    obtain ⟨a, ea⟩ := (ty_ok hρ _ _ (isTy_eq.1 h1)).1
    rw [constB_eq h3, ea]
    cases b with
    | true => cases h4; exact ⟨a, ea, by show some (a == true) = _; simp⟩
    | false =>
      have := mkUn_ok hρ (show mkUn τ .not x = some e from h4)
      rw [ea, un_not] at this
      exact ⟨!a, by simpa using (V.w.inj (Option.some.inj this)).symm, by show some (a == false) = _; cases a <;> rfl⟩
  · cases hx
theorem eqE_ok (hρ : ∀ n, hasT (τ n) (ρ n)) : ∀ {ks : List Nat} {xs ys : List Ex} {e : Ex}, eqE τ ks xs ys = some e → ∃ t, dn ρ e = .bool t ∧ eqN ks (xs.map (dn ρ)) (ys.map (dn ρ)) = some t
  | [], [], [], e, hx => by cases hx; exact ⟨true, rfl, rfl⟩
  | k :: ks, x :: xs, y :: ys, e, hx => by
    obtain ⟨z, h1, h2⟩ := bnd_eq.1 hx
    obtain ⟨r, h3, h4⟩ := bnd_eq.1 h2
    obtain ⟨t, e1, e2⟩ := eq1_ok hρ h1
    obtain ⟨t', e3, e4⟩ := mkIte_ok hρ h4
    rw [e1] at e3; cases e3
    obtain ⟨u, e5, e6⟩ := eqE_ok hρ h3
    have hN : eqN (k :: ks) ((x :: xs).map (dn ρ)) ((y :: ys).map (dn ρ)) = bnd (eqK k (dn ρ x) (dn ρ y)) (fun r => Bool.rec (motive := fun _ => Option Bool) (some false) (eqN ks (xs.map (dn ρ)) (ys.map (dn ρ))) r) := rfl
    rw [hN, e2, bnd_some]
    cases t with
    | true => exact ⟨u, by rw [e4]; exact e5, e6⟩
    | false => exact ⟨false, by rw [e4]; rfl, rfl⟩
  | [], [], _ :: _, e, hx => by cases hx
  | [], _ :: _, _, e, hx => by cases hx
  | _ :: _, [], _, e, hx => by cases hx
  | _ :: _, _ :: _, [], e, hx => by cases hx
theorem splice_map {off : Nat} {vs l r : List Ex} (hx : splice off vs l = some r) : splice off (vs.map (dn ρ)) (l.map (dn ρ)) = some (r.map (dn ρ)) := by
  obtain ⟨h1, rfl⟩ := splice_eq.1 hx
  refine splice_eq.2 ⟨by simpa using h1, ?_⟩
  simp [List.map_take, List.map_drop]
theorem fillS_ok {σ : Tr Sv} (hs : RSg ρ σ s) (hg : GdOk ρ gd) : ∀ {ps : List (Nat × Nat × Opd)} {cs r : List Ex}, fillS σ gd ps cs = some r → fill s ps (cs.map (dn ρ)) = some (r.map (dn ρ))
  | [], cs, r, hx => by cases hx; rfl
  | (off, z, x) :: ps, cs, r, hx => by
    obtain ⟨v, h1, h2⟩ := bnd_eq.1 hx
    obtain ⟨h3, h4⟩ := bif_none.1 h2
    obtain ⟨cs', h5, h6⟩ := bnd_eq.1 h4
    have hf : fill s ((off, z, x) :: ps) (cs.map (dn ρ)) = bnd (opd s x) (fun v => onCells v (fun l => guardB (Nat.beq (lenX l) z) (bnd (splice off l (cs.map (dn ρ))) (fill s ps)))) := rfl
    rw [hf, rd_ok hs hg h1, bnd_some, cellsE_ok, lenX_eq, List.length_map, h3, guardB_true, splice_map h5, bnd_some, fillS_ok hs hg h6]
theorem sPick_ok (hρ : ∀ n, hasT (τ n) (ρ n)) {σ : Tr Sv} (hs : RSg ρ σ s) (hg : GdOk ρ gd) {e : Ex} {a b : Opd} {r : Pv} (hx : sPick τ σ gd e a b = some r) : onBool (.w (dn ρ e)) (aMv s h a) (aMv s h b) = some (dv ρ r, h) := by
  unfold sPick at hx
  split at hx
  · rename_i t ht
    rw [constB_eq ht]
    show onBool (.w (.bool t)) _ _ = _
    rw [onBool_b]
    cases t
    · show aMv s h b = _; rw [aMv_eq, rd_ok (x := b) hs hg hx]; rfl
    · show aMv s h a = _; rw [aMv_eq, rd_ok (x := a) hs hg hx]; rfl
  · obtain ⟨x, h1, h2⟩ := bnd_eq.1 hx
    obtain ⟨y, h3, h4⟩ := bnd_eq.1 h2
    obtain ⟨t, e1, e2⟩ := mkIteP_ok hρ h4
    rw [e1, onBool_b]
    cases t
    · show aMv s h b = _
      rw [aMv_eq, rd_ok hs (gd := some (e, false)) (fun e' c he => by cases he; exact e1) h3, e2]; rfl
    · show aMv s h a = _
      rw [aMv_eq, rd_ok hs (gd := some (e, true)) (fun e' c he => by cases he; exact e1) h1, e2]; rfl
end
end Go.Am
namespace Go.Am
open Go.RowKit
set_option autoImplicit false
set_option linter.unusedSimpArgs false
set_option linter.unusedVariables false
def SpOk (ρ : Nat → W) (sp : Sp) (cl : Call) : Prop := ∀ k vs r, sp k vs = some r → ∀ h, cl (.w (.fnc k)) (vs.map (dv ρ)) h = some (dv ρ r, h)
section
variable {ρ : Nat → W} {τ : Nat → Ty} {s s' : S} {h h' : H} {cl : Call} {sp : Sp} {gd : Gd} {st st' : Ss} {pu : Bool}
theorem bif_n {α : Type} {b : Bool} {x : Option α} {y : α} : (bif b then none else x) = some y ↔ b = false ∧ x = some y := by cases b <;> simp
theorem RHp.put (hh : RHp ρ st.η st.sz h) {b : P} {T : Nat} {es : List Ex} {z : P} {lg nw : List P} : RHp ρ (Tr.put (some es) b st.η) z ⟨z, Tr.put (some (.row true T (es.map (dn ρ)))) b h.tr, lg, nw⟩ where
  row c fs hc := by
    rw [Tr.get_put] at hc
    show ∃ T', Tr.get c (Tr.put _ b h.tr) = _
    rw [Tr.get_put]
    split at hc
    · rename_i e; cases hc; exact ⟨T, by rw [if_pos e]⟩
    · rename_i e; rw [if_neg e]; exact hh.row c fs hc
  sz := rfl
theorem sA_ok (hρ : ∀ n, hasT (τ n) (ρ n)) (hsp : SpOk ρ sp cl) (hs : RSg ρ st.σ s) (hh : RHp ρ st.η st.sz h) (hg : GdOk ρ gd) {a : A} {r : Option Pv} (hx : sA τ sp st pu gd a = some (r, st')) :
    ∃ v h', act cl s h a = some (v, h') ∧ (∀ x, r = some x → v = dv ρ x) ∧ RHp ρ st'.η st'.sz h' ∧ st'.σ = st.σ ∧ (pu = true → h' = h ∧ st' = st) := by
  have one : ∀ {v : Pv} {o : Option (V × H)}, o = some (dv ρ v, h) → some (some v, st) = some (r, st') → ∃ u h', o = some (u, h') ∧ (∀ x, r = some x → u = dv ρ x) ∧ RHp ρ st'.η st'.sz h' ∧ st'.σ = st.σ ∧ (pu = true → h' = h ∧ st' = st) := by
    intro v o ho he
    cases he
    exact ⟨_, _, ho, fun x e => by cases e; rfl, hh, rfl, fun _ => ⟨rfl, rfl⟩⟩
  unfold sA at hx
  split at hx
  · obtain ⟨v, h1, h2⟩ := bnd_eq.1 hx
    refine one ?_ h2
    rw [act_mv, rd_ok hs hg h1]; rfl
  · rename_i n x
    obtain ⟨v, h1, h2⟩ := bnd_eq.1 hx
    obtain ⟨q, h3, h4⟩ := bnd_eq.1 h2
    obtain ⟨es, h5, h6⟩ := bnd_eq.1 h4
    obtain ⟨u, h7, h8⟩ := bnd_eq.1 h6
    refine one ?_ h8
    obtain ⟨T, hT⟩ := hh.row _ _ h5
    rw [act_ld, rd_ok hs hg h1, ptrE_eq h3, bnd_some]
    show onPtr (V.w (W.ptr q.1 q.2)) _ = _
    rw [onPtr_p, atRow_at hT, dropX_eq, ← List.map_drop, cellE_ok h7]; rfl
  · rename_i off x
    obtain ⟨v, h1, h2⟩ := bnd_eq.1 hx
    obtain ⟨q, h3, h4⟩ := bnd_eq.1 h2
    refine one ?_ h4
    rw [act_fad, rd_ok hs hg h1, ptrE_eq h3, bnd_some]
    rfl
  · rename_i f xs
    obtain ⟨v, h1, h2⟩ := bnd_eq.1 hx
    obtain ⟨k, h3, h4⟩ := bnd_eq.1 h2
    obtain ⟨vs, h5, h6⟩ := bnd_eq.1 h4
    obtain ⟨u, h7, h8⟩ := bnd_eq.1 h6
    refine one ?_ h8
    rw [act_call, rd_ok hs hg h1, fncE_eq h3, bnd_some, rds_ok hs hg h5, bnd_some]
    exact hsp k vs u h7 h
  · rename_i c a b
    obtain ⟨v, h1, h2⟩ := bnd_eq.1 hx
    obtain ⟨e, h3, h4⟩ := bnd_eq.1 h2
    obtain ⟨u, h5, h6⟩ := bnd_eq.1 h4
    refine one ?_ h6
    rw [act_pick, rd_ok hs hg h1, wordE_eq h3, bnd_some]
    exact sPick_ok hρ hs hg h5
  · rename_i o x y
    obtain ⟨v, h1, h2⟩ := bnd_eq.1 hx
    obtain ⟨a, h3, h4⟩ := bnd_eq.1 h2
    obtain ⟨u, h5, h6⟩ := bnd_eq.1 h4
    obtain ⟨b, h7, h8⟩ := bnd_eq.1 h6
    obtain ⟨e, h9, h10⟩ := bnd_eq.1 h8
    refine one ?_ h10
    rw [act_bin, rd_ok hs hg h1, wordE_eq h3, bnd_some]
    show onW (V.w (dn ρ a)) _ = _
    rw [onW_w, rd_ok hs hg h5, wordE_eq h7, bnd_some]
    show onW (V.w (dn ρ b)) _ = _
    rw [onW_w, mkBin_ok hρ h9]; rfl
  · rename_i o x
    obtain ⟨v, h1, h2⟩ := bnd_eq.1 hx
    obtain ⟨a, h3, h4⟩ := bnd_eq.1 h2
    obtain ⟨e, h9, h10⟩ := bnd_eq.1 h4
    refine one ?_ h10
    rw [act_un, rd_ok hs hg h1, wordE_eq h3, bnd_some]
    show onW (V.w (dn ρ a)) _ = _
    rw [onW_w, mkUn_ok hρ h9]; rfl
  · rename_i T x
    obtain ⟨hp, h0⟩ := bif_n.1 hx
    obtain ⟨v, h1, h2⟩ := bnd_eq.1 h0
    cases h2
    refine ⟨_, _, by rw [act_box, rd_ok hs hg h1, bnd_some, cellsE_ok, H.new_eq], ?_, ?_, rfl, fun e => by rw [hp] at e; cases e⟩
    · intro x e; cases e
      show V.w (W.ptr h.sz 0) = V.w (W.ptr st.sz 0)
      rw [hh.sz]
    · have := hh.put (b := st.sz) (T := T) (es := cellsE v) (z := st.sz.next) (lg := h.log) (nw := h.sz :: h.nw)
      rw [hh.sz] at this ⊢
      exact this
  · rename_i z ps
    obtain ⟨cs, h1, h2⟩ := bnd_eq.1 hx
    refine one (v := .a cs) ?_ h2
    show aBld s h z ps = _
    unfold aBld
    have := fillS_ok hs hg h1
    rw [List.map_map, show (dn ρ ∘ Ex.c) = id from rfl, List.map_id] at this
    rw [this]; rfl
  · rename_i n x y
    obtain ⟨hp, h0⟩ := bif_n.1 hx
    obtain ⟨v, h1, h2⟩ := bnd_eq.1 h0
    obtain ⟨q, h3, h4⟩ := bnd_eq.1 h2
    obtain ⟨u, h5, h6⟩ := bnd_eq.1 h4
    obtain ⟨cs, h7, h8⟩ := bnd_eq.1 h6
    obtain ⟨h9, h10⟩ := bif_none.1 h8
    obtain ⟨cs', h11, h12⟩ := bnd_eq.1 h10
    cases h12
    obtain ⟨T, hT⟩ := hh.row _ _ h7
    refine ⟨.t [], ⟨h.sz, Tr.put (some (.row true T (cs'.map (dn ρ)))) q.1 h.tr, q.1 :: h.log, h.nw⟩, ?_, (fun x e => by cases e), ?_, rfl, fun e => by rw [hp] at e; cases e⟩
    · show aSt s h n x y = _
      unfold aSt
      rw [rd_ok hs hg h1, ptrE_eq h3, bnd_some]
      show onPtr (V.w (W.ptr q.1 q.2)) _ = _
      rw [onPtr_p, rd_ok hs hg h5, bnd_some, cellsE_ok]
      have : Nat.beq (lenX ((cellsE u).map (dn ρ))) n = true := by rw [lenX_eq, List.length_map]; exact h9
      rw [this, guardB_true]
      show atRow h q.1 _ = _
      rw [atRow_at hT, guardB_true]
      show bnd (splice q.2 ((cellsE u).map (dn ρ)) (cs.map (dn ρ))) _ = _
      rw [splice_map h11, bnd_some, H.put_eq]
    · have := hh.put (b := q.1) (T := T) (es := cs') (z := st.sz) (lg := q.1 :: h.log) (nw := h.nw)
      rw [hh.sz]; exact this
  · rename_i len z n x i
    obtain ⟨v, h1, h2⟩ := bnd_eq.1 hx
    obtain ⟨cs, h3, h4⟩ := bnd_eq.1 h2
    obtain ⟨u, h5, h6⟩ := bnd_eq.1 h4
    obtain ⟨j, h7, h8⟩ := bnd_eq.1 h6
    obtain ⟨h9, h10⟩ := bif_none.1 h8
    obtain ⟨r', h11, h12⟩ := bnd_eq.1 h10
    refine one ?_ h12
    obtain ⟨k, hk⟩ := natE_eq h7
    show aIdv s h len z n x i = _
    unfold aIdv
    rw [rd_ok hs hg h1, aggE_eq h3, bnd_some]
    show bnd (opd s i) _ = _
    rw [rd_ok hs hg h5, hk, bnd_some]
    show guardB (Nat.blt j len) _ = _
    rw [h9, guardB_true, dropX_eq, show Nat.mul j z = j * z from rfl, ← List.map_drop, cellE_ok h11]; rfl
  · rename_i off n x
    obtain ⟨v, h1, h2⟩ := bnd_eq.1 hx
    obtain ⟨cs, h3, h4⟩ := bnd_eq.1 h2
    obtain ⟨r', h11, h12⟩ := bnd_eq.1 h4
    refine one ?_ h12
    show aFld s h off n x = _
    unfold aFld
    rw [rd_ok hs hg h1, aggE_eq h3, bnd_some]
    show bnd (cellN n (dropX off (cs.map (dn ρ)))) _ = _
    rw [dropX_eq, ← List.map_drop, cellE_ok h11]; rfl
  · rename_i ks neq x y
    obtain ⟨v, h1, h2⟩ := bnd_eq.1 hx
    obtain ⟨xs, h3, h4⟩ := bnd_eq.1 h2
    obtain ⟨u, h5, h6⟩ := bnd_eq.1 h4
    obtain ⟨ys, h7, h8⟩ := bnd_eq.1 h6
    obtain ⟨e, h9, h10⟩ := bnd_eq.1 h8
    obtain ⟨t, e1, e2⟩ := eqE_ok hρ h9
    have hA : act cl s h (.o (.eqs ks neq x y)) = some (.w (.bool (t != neq)), h) := by
      show aEqs s h ks neq x y = _
      unfold aEqs
      rw [rd_ok hs hg h1, aggE_eq h3, bnd_some]
      show bnd (opd s y) _ = _
      rw [rd_ok hs hg h5, aggE_eq h7, bnd_some]
      show bnd (eqN ks (xs.map (dn ρ)) (ys.map (dn ρ))) _ = _
      rw [e2, bnd_some, boolK_eq]
    cases neq with
    | true =>
      obtain ⟨z, h11, h12⟩ := bnd_eq.1 (show bnd (mkUn τ .not e) (fun r => some (some (Pv.w r), st)) = some (r, st') from h10)
      refine one ?_ h12
      have := mkUn_ok hρ h11
      rw [e1, un_not] at this
      rw [hA]
      show some (V.w (W.bool (t != true)), h) = some (V.w (dn ρ z), h)
      rw [← V.w.inj (Option.some.inj this)]
      cases t <;> rfl
    | false =>
      refine one (v := .w e) ?_ h10
      rw [hA]
      show _ = some (V.w (dn ρ e), h)
      rw [e1]; cases t <;> rfl
  · cases hx
end
end Go.Am
namespace Go.Am
open Go.RowKit
set_option autoImplicit false
set_option linter.unusedSimpArgs false
set_option linter.unusedVariables false
def setE (st : Ss) (σ : Tr Sv) : Ss := ⟨σ, st.η, st.sz⟩
noncomputable def putE (d : Option P) (x : Option Sv) (st : Ss) : Ss := match d with | none => st | some p => ⟨Tr.put x p st.σ, st.η, st.sz⟩
noncomputable def sFree (τ : Nat → Ty) (sp : Sp) (pu : Bool) (st : Ss) (d : Option P) (a : A) : Option Ss := bnd (sA τ sp st pu none a) fun r => some (putE d (r.1.map Sv.p) r.2)
noncomputable def sGd (τ : Nat → Ty) (sp : Sp) (pu : Bool) (st : Ss) (d : Option P) (a : A) (c : Bool) (e : Ex) : Option Ss :=
  match constB e with
  | some b => bif b == c then sFree τ sp pu st d a else some (putE d none st)
  | none => bif isTy .b (ty τ e) then bnd (sA τ sp st true (some (e, c)) a) fun r => some (putE d (r.1.map (Sv.g e c)) r.2) else none
noncomputable def sI (τ : Nat → Ty) (sp : Sp) (pu : Bool) (st : Ss) (i : I) : Option Ss :=
  match i.g with
  | none => sFree τ sp pu st i.d i.a
  | some (p, c) => bnd (rdO none (st.σ.get p)) fun x => bnd (wordE x) fun e => sGd τ sp pu st i.d i.a c e
noncomputable def sL (τ : Nat → Ty) (sp : Sp) : List I → Ss → Option Ss
  | [], st => some st
  | i :: l, st => bnd (sI τ sp false st i) fun st => sL τ sp l st
def effI (i : I) : Bool := match i.a with | .box _ _ => true | .st _ _ _ => true | _ => false
def usOk (fl : List Bool) (u : Option (List Nat)) (e : Bool) : Bool := match u with | none => !e | some us => us.all fun u => !((fl[u]?).getD false)
/-- a region in whatever order, where nothing that is changed is hidden; fl: which operations change the heap -/
noncomputable def sP (τ : Nat → Ty) (sp : Sp) (fl : List Bool) : List I → List (Option (List Nat)) → Ss → Option Ss
  | [], _, st => some st
  | _ :: _, [], _ => none
  | i :: l, u :: us, st => bif usOk fl u (effI i) then bnd (sI τ sp (!(effI i)) (match u with | none => ⟨st.σ, .e, st.sz⟩ | some _ => st) i) fun st' => sP τ sp fl l us (match u with | none => setE st st'.σ | some _ => st') else none
noncomputable def sD (τ : Nat → Ty) (sp : Sp) (l : List I) (us : List (Option (List Nat))) (st : Ss) : Option Ss := match us with | [] => sL τ sp l st | us => sP τ sp (l.map effI) l us st
section
variable {ρ : Nat → W} {τ : Nat → Ty} {s s' : S} {h h' : H} {cl : Call} {sp : Sp} {gd : Gd} {st st' : Ss} {pu : Bool}
theorem RSg.put {σ : Tr Sv} (hs : RSg ρ σ s) {p : P} {x : Option Sv} {v : V} (hx : ∀ y, x = some y → Sl ρ y (some v)) : RSg ρ (Tr.put x p σ) (Tr.put (some v) p s) := by
  intro q y hy
  rw [Tr.get_put] at hy ⊢
  split at hy
  · rename_i e; rw [if_pos e]; exact hx y hy
  · rename_i e; rw [if_neg e]; exact hs q y hy
theorem putE_ok {d : Option P} {x : Option Sv} {v : V} (hs : RSg ρ st.σ s) (hh : RHp ρ st.η st.sz h) (hx : ∀ y, x = some y → Sl ρ y (some v)) :
    ∃ s', setD s h d v = some (s', h) ∧ RSg ρ (putE d x st).σ s' ∧ RHp ρ (putE d x st).η (putE d x st).sz h ∧ (putE d x st).η = st.η ∧ (putE d x st).sz = st.sz := by
  cases d with
  | none => exact ⟨s, setD_none, hs, hh, rfl, rfl⟩
  | some p => exact ⟨_, setD_some, hs.put hx, hh, rfl, rfl⟩
/-- pu: the heap stays as it is -/
def Stp (ρ : Nat → W) (pu : Bool) (st st' : Ss) (h : H) (o : SH) : Prop := ∃ s' h', o = some (s', h') ∧ RSg ρ st'.σ s' ∧ RHp ρ st'.η st'.sz h' ∧ (pu = true → h' = h ∧ st'.η = st.η ∧ st'.sz = st.sz)
theorem sA_pu {a : A} {r : Option Pv} (hx : sA τ sp st true gd a = some (r, st')) : st' = st := by
  unfold sA at hx
  split at hx
  · obtain ⟨_, _, hx⟩ := bnd_eq.1 hx
    cases hx; rfl
  · obtain ⟨_, _, hx⟩ := bnd_eq.1 hx
    obtain ⟨_, _, hx⟩ := bnd_eq.1 hx
    obtain ⟨_, _, hx⟩ := bnd_eq.1 hx
    obtain ⟨_, _, hx⟩ := bnd_eq.1 hx
    cases hx; rfl
  · obtain ⟨_, _, hx⟩ := bnd_eq.1 hx
    obtain ⟨_, _, hx⟩ := bnd_eq.1 hx
    cases hx; rfl
  · obtain ⟨_, _, hx⟩ := bnd_eq.1 hx
    obtain ⟨_, _, hx⟩ := bnd_eq.1 hx
    obtain ⟨_, _, hx⟩ := bnd_eq.1 hx
    obtain ⟨_, _, hx⟩ := bnd_eq.1 hx
    cases hx; rfl
  · obtain ⟨_, _, hx⟩ := bnd_eq.1 hx
    obtain ⟨_, _, hx⟩ := bnd_eq.1 hx
    obtain ⟨_, _, hx⟩ := bnd_eq.1 hx
    cases hx; rfl
  · obtain ⟨_, _, hx⟩ := bnd_eq.1 hx
    obtain ⟨_, _, hx⟩ := bnd_eq.1 hx
    obtain ⟨_, _, hx⟩ := bnd_eq.1 hx
    obtain ⟨_, _, hx⟩ := bnd_eq.1 hx
    obtain ⟨_, _, hx⟩ := bnd_eq.1 hx
    cases hx; rfl
  · obtain ⟨_, _, hx⟩ := bnd_eq.1 hx
    obtain ⟨_, _, hx⟩ := bnd_eq.1 hx
    obtain ⟨_, _, hx⟩ := bnd_eq.1 hx
    cases hx; rfl
  · cases hx
  · obtain ⟨_, _, hx⟩ := bnd_eq.1 hx
    cases hx; rfl
  · cases hx
  · obtain ⟨_, _, hx⟩ := bnd_eq.1 hx
    obtain ⟨_, _, hx⟩ := bnd_eq.1 hx
    obtain ⟨_, _, hx⟩ := bnd_eq.1 hx
    obtain ⟨_, _, hx⟩ := bnd_eq.1 hx
    obtain ⟨_, hx⟩ := bif_none.1 hx
    obtain ⟨_, _, hx⟩ := bnd_eq.1 hx
    cases hx; rfl
  · obtain ⟨_, _, hx⟩ := bnd_eq.1 hx
    obtain ⟨_, _, hx⟩ := bnd_eq.1 hx
    obtain ⟨_, _, hx⟩ := bnd_eq.1 hx
    cases hx; rfl
  · rename_i neq _ _
    obtain ⟨_, _, hx⟩ := bnd_eq.1 hx
    obtain ⟨_, _, hx⟩ := bnd_eq.1 hx
    obtain ⟨_, _, hx⟩ := bnd_eq.1 hx
    obtain ⟨_, _, hx⟩ := bnd_eq.1 hx
    obtain ⟨e, _, hx⟩ := bnd_eq.1 hx
    cases neq with
    | true => obtain ⟨_, _, hx⟩ := bnd_eq.1 (show bnd (mkUn τ .not e) (fun r => some (some (Pv.w r), st)) = some (r, st') from hx); cases hx; rfl
    | false => cases hx; rfl
  · cases hx
theorem sFree_ok (hρ : ∀ n, hasT (τ n) (ρ n)) (hsp : SpOk ρ sp cl) (hs : RSg ρ st.σ s) (hh : RHp ρ st.η st.sz h) {d : Option P} {a : A} (hx : sFree τ sp pu st d a = some st') :
    Stp ρ pu st st' h (bnd2 (act cl s h a) (fun v h => setD s h d v)) := by
  obtain ⟨⟨r, st1⟩, h1, h2⟩ := bnd_eq.1 hx
  cases h2
  obtain ⟨v, h', e1, e2, e3, e4, e5⟩ := sA_ok hρ hsp hs hh (fun e c he => by cases he) h1
  obtain ⟨s', k1, k2, k3, k4, k5⟩ := putE_ok (st := st1) (d := d) (x := r.map Sv.p) (v := v) (e4 ▸ hs) e3 (fun y hy => by
    cases r with
    | none => cases hy
    | some x => cases hy; show some v = some (dv ρ x); rw [e2 x rfl])
  refine ⟨s', h', by rw [e1]; exact k1, k2, k3, fun hp => ⟨(e5 hp).1, ?_, ?_⟩⟩
  · rw [k4, (e5 hp).2]
  · rw [k5, (e5 hp).2]
theorem sGd_ok (hρ : ∀ n, hasT (τ n) (ρ n)) (hsp : SpOk ρ sp cl) (hs : RSg ρ st.σ s) (hh : RHp ρ st.η st.sz h) {d : Option P} {a : A} {c : Bool} {e : Ex} (hx : sGd τ sp pu st d a c e = some st') :
    Stp ρ pu st st' h (gsel (.w (dn ρ e)) c (bnd2 (act cl s h a) (fun v h => setD s h d v)) (setD s h d (.t []))) := by
  have gs : ∀ {t : Bool} {x y : SH}, gsel (.w (.bool t)) c x y = bif t == c then x else y := by intro t x y; cases c <;> cases t <;> rfl
  have skip : st' = putE d none st → Stp ρ pu st st' h (setD s h d (.t [])) := by
    rintro rfl
    obtain ⟨s', k1, k2, k3, k4, k5⟩ := putE_ok (st := st) (d := d) (x := none) (v := .t []) hs hh (fun y hy => by cases hy)
    exact ⟨s', h, k1, k2, k3, fun hp => ⟨rfl, k4, k5⟩⟩
  unfold sGd at hx
  split at hx
  · rename_i b hb
    rw [constB_eq hb]
    show Stp ρ pu st st' h (gsel (.w (.bool b)) c _ _)
    rw [gs]
    cases hbc : b == c with
    | true => rw [hbc] at hx; exact sFree_ok hρ hsp hs hh hx
    | false => rw [hbc] at hx; exact skip (Option.some.inj hx).symm
  · obtain ⟨h0, h1⟩ := bif_none.1 hx
    obtain ⟨t, ht⟩ := (ty_ok hρ _ _ (isTy_eq.1 h0)).1
    obtain ⟨⟨r, st1⟩, h2, h3⟩ := bnd_eq.1 h1
    cases h3
    rw [ht, gs]
    cases htc : t == c with
    | true =>
      have htc : t = c := by simpa using htc
      obtain ⟨v, h', e1, e2, e3, e4, e5⟩ := sA_ok hρ hsp hs hh (fun e' c' he => by cases he; rw [ht, htc]) h2
      obtain ⟨eh, es⟩ := e5 rfl
      subst es
      obtain ⟨s', k1, k2, k3, k4, k5⟩ := putE_ok (st := st1) (d := d) (x := r.map (Sv.g e c)) (v := v) hs e3 (fun y hy => by
        cases r with
        | none => cases hy
        | some x => cases hy; intro _; show some v = some (dv ρ x); rw [e2 x rfl])
      exact ⟨s', h', by show bnd2 (act cl s h a) (fun v h => setD s h d v) = _; rw [e1]; exact k1, k2, k3, fun hp => ⟨eh, k4, k5⟩⟩
    | false =>
      have htc : t ≠ c := by simpa using htc
      have e5 : st1 = st := by
        by_cases hc : dn ρ e = .bool c
        · rw [ht] at hc; cases hc; exact absurd rfl htc
        · exact sA_pu h2
      subst e5
      obtain ⟨s', k1, k2, k3, k4, k5⟩ := putE_ok (st := st1) (d := d) (x := r.map (Sv.g e c)) (v := .t []) hs hh (fun y hy => by
        cases r with
        | none => cases hy
        | some x => cases hy; intro hc; rw [ht] at hc; cases hc; exact absurd rfl htc)
      exact ⟨s', h, k1, k2, k3, fun hp => ⟨rfl, k4, k5⟩⟩
end
end Go.Am
namespace Go.Am
open Go.RowKit
set_option autoImplicit false
set_option linter.unusedSimpArgs false
set_option linter.unusedVariables false
section
variable {ρ : Nat → W} {τ : Nat → Ty} {s s' : S} {h h' : H} {cl : Call} {sp : Sp} {gd : Gd} {st st' : Ss} {pu : Bool}
theorem sI_ok (hρ : ∀ n, hasT (τ n) (ρ n)) (hsp : SpOk ρ sp cl) (hs : RSg ρ st.σ s) (hh : RHp ρ st.η st.sz h) {i : I} (hx : sI τ sp pu st i = some st') : Stp ρ pu st st' h (ins cl s h i) := by
  obtain ⟨d, a, g⟩ := i
  cases g with
  | none => rw [ins_free]; exact sFree_ok hρ hsp hs hh hx
  | some g =>
    obtain ⟨q, c⟩ := g
    obtain ⟨x, h1, h2⟩ := bnd_eq.1 (show bnd (rdO none (st.σ.get q)) (fun x => bnd (wordE x) fun e => sGd τ sp pu st d a c e) = some st' from hx)
    obtain ⟨e, h3, h4⟩ := bnd_eq.1 h2
    have hq : s.get q = some (.w (dn ρ e)) := by
      have := rd_ok (gd := none) hs (fun e c he => by cases he) (x := .t q) h1
      rw [wordE_eq h3] at this
      exact this
    rw [ins_g, hq, bnd_some]
    exact sGd_ok hρ hsp hs hh h4
theorem sL_ok (hρ : ∀ n, hasT (τ n) (ρ n)) (hsp : SpOk ρ sp cl) : ∀ {l : List I} {st : Ss} {s : S} {h : H}, RSg ρ st.σ s → RHp ρ st.η st.sz h → sL τ sp l st = some st' → ∃ s' h', insL cl l s h = some (s', h') ∧ RSg ρ st'.σ s' ∧ RHp ρ st'.η st'.sz h'
  | [], st, s, h, hs, hh, hx => by cases hx; exact ⟨s, h, rfl, hs, hh⟩
  | i :: l, st, s, h, hs, hh, hx => by
    obtain ⟨st1, h1, h2⟩ := bnd_eq.1 hx
    obtain ⟨s1, h1', e1, e2, e3, _⟩ := sI_ok hρ hsp hs hh h1
    rw [insL_cons, e1]
    exact sL_ok hρ hsp e2 e3 h2
/-- only the operations of fl wrote or made something -/
def Nils (fl : List Bool) (l : List (List P)) : Prop := ∀ (u : Nat) (x : List P), l[u]? = some x → x ≠ [] → fl[u]? = some true
theorem Nils.nil {fl : List Bool} : Nils fl [] := fun u x h => by simp at h
theorem Nils.snoc {fl : List Bool} {l : List (List P)} (hl : Nils fl l) {y : List P} (hy : y ≠ [] → fl[l.length]? = some true) : Nils fl (l ++ [y]) := fun u x h hx => by
  by_cases hu : u < l.length
  · rw [List.getElem?_append_left hu] at h; exact hl u x h hx
  · rw [List.getElem?_append_right (by omega)] at h
    have : u - l.length = 0 := by
      by_cases e : u - l.length = 0
      · exact e
      · rw [List.getElem?_eq_none (by simp; omega)] at h; cases h
    rw [this] at h
    have hxy : y = x := by simpa using h
    rw [show u = l.length by omega]
    exact hy (by rw [hxy]; exact hx)
theorem Nils.not {fl : List Bool} {l : List (List P)} (hl : Nils fl l) {u : Nat} {x : List P} (h : l[u]? = some x) (hu : (fl[u]?).getD false = false) : x = [] := by
  by_cases e : x = []
  · exact e
  · rw [hl u x h e] at hu; cases hu
theorem hid_nils {fl : List Bool} {done tbl : List (List P)} (hd : Nils fl done) (ht : Nils fl tbl) : ∀ {us : List Nat}, (us.all fun u => !((fl[u]?).getD false)) = true → hid us done tbl = some []
  | [], _ => rfl
  | u :: us, hu => by
    rw [List.all_cons, Bool.and_eq_true, Bool.not_eq_true'] at hu
    show bnd (hid us done tbl) _ = _
    rw [hid_nils hd ht hu.2, bnd_some]
    show Option.rec (motive := fun _ => Option (List P)) (Option.rec (motive := fun _ => Option (List P)) (some []) (fun l => appX l []) (nthX u tbl)) (fun l => appX l []) (nthX u done) = _
    rw [nthX_eq, nthX_eq]
    cases h1 : done[u]? with
    | none =>
      cases h2 : tbl[u]? with
      | none => rfl
      | some x => rw [ht.not h2 hu.1]; rfl
    | some x => rw [hd.not h1 hu.1]; rfl
theorem seen_nils {fl : List Bool} {u : Option (List Nat)} {e : Bool} {done tbl : List (List P)} (hd : Nils fl done) (ht : Nils fl tbl) (hu : usOk fl u e = true) {tr : Tr O} : seen u done tbl tr = some (match u with | none => .e | some _ => tr) := by
  cases u with
  | none => rfl
  | some us =>
    show bnd (hid us done tbl) (fun m => killL m tr) = _
    rw [hid_nils hd ht hu]; rfl
theorem overL_ex {new : Tr O} : ∀ {ids : List P} {tr : Tr O}, ∃ t, overL new ids tr = some t
  | [], tr => ⟨tr, rfl⟩
  | q :: ids, tr => by
    show ∃ t, bnd (tr.set (new.get q) q) (overL new ids) = some t
    rw [Tr.set_eq, bnd_some]
    exact overL_ex
theorem sP_ok (hρ : ∀ n, hasT (τ n) (ρ n)) (hsp : SpOk ρ sp cl) (hmc : MonCall cl) {fl : List Bool} : ∀ {l : List I} {us : List (Option (List Nat))} {st : Ss} {s : S} {h : H} {done wr : List (List P)},
    fl.drop done.length = l.map effI → done.length = wr.length → Nils fl done → Nils fl wr → RSg ρ st.σ s → RHp ρ st.η st.sz h → sP τ sp fl l us st = some st' →
    ∃ s' h' wr', (∀ tbl, Nils fl tbl → passL cl tbl l us s h done wr = some ((s', h'), wr')) ∧ Nils fl wr' ∧ RSg ρ st'.σ s' ∧ RHp ρ st'.η st'.sz h'
  | [], us, st, s, h, done, wr, hf, hl, hd, hw, hs, hh, hx => by cases hx; exact ⟨s, h, wr, fun _ _ => rfl, hw, hs, hh⟩
  | i :: l, [], st, s, h, done, wr, hf, hl, hd, hw, hs, hh, hx => by cases hx
  | i :: l, u :: us, st, s, ⟨sz, tr, lg, nw⟩, done, wr, hf, hl, hd, hw, hs, hh, hx => by
    obtain ⟨h0, hx⟩ := bif_none.1 hx
    obtain ⟨st1, h1, h2⟩ := bnd_eq.1 hx
    have hfl : fl[done.length]? = some (effI i) := by
      have : (fl.drop done.length)[0]? = some (effI i) := by rw [hf]; rfl
      rwa [List.getElem?_drop, Nat.add_zero] at this
    have hfd : fl.drop (done.length + 1) = l.map effI := by
      rw [← List.drop_drop, hf]; rfl
    -- the one step
    obtain ⟨k, s1, h1', hk, e1, e2, e3, e5⟩ : ∃ k s1 h1', (∀ tbl, Nils fl tbl → seen u done tbl tr = some k) ∧ ins cl s ⟨sz, k, [], []⟩ i = some (s1, h1') ∧ RSg ρ st1.σ s1 ∧ (effI i = false → h1' = ⟨sz, k, [], []⟩) ∧
        (effI i = true → k = tr ∧ RHp ρ (match u with | none => setE st st1.σ | some _ => st1).η (match u with | none => setE st st1.σ | some _ => st1).sz h1') ∧ (effI i = false → RHp ρ (match u with | none => setE st st1.σ | some _ => st1).η (match u with | none => setE st st1.σ | some _ => st1).sz ⟨sz, tr, lg, nw⟩) := by
      cases u with
      | none =>
        have hne : effI i = false := by simpa [usOk] using h0
        have h1 : sI τ sp (!(effI i)) ⟨st.σ, .e, st.sz⟩ i = some st1 := h1
        rw [hne] at h1
        obtain ⟨s1, h1', e1, e2, e3, e4⟩ := sI_ok (st := ⟨st.σ, .e, st.sz⟩) (h := ⟨sz, .e, [], []⟩) hρ hsp hs ⟨fun b es hb => by change Tr.get b (Tr.e : Tr (List Ex)) = some es at hb; simp at hb, hh.sz⟩ h1
        exact ⟨_, s1, h1', fun tbl ht => seen_nils hd ht h0, e1, e2, fun _ => (e4 rfl).1, fun e => (by rw [hne] at e; cases e), fun _ => hh⟩
      | some us =>
        have h1 : sI τ sp (!(effI i)) st i = some st1 := h1
        obtain ⟨s1, h1', e1, e2, e3, e4⟩ := sI_ok (st := st) (h := ⟨sz, tr, [], []⟩) hρ hsp hs ⟨hh.row, hh.sz⟩ h1
        refine ⟨_, s1, h1', fun tbl ht => seen_nils hd ht h0, e1, e2, fun e => (e4 (by rw [e]; rfl)).1, fun e => ⟨rfl, e3⟩, fun e => ?_⟩
        obtain ⟨_, e6, e7⟩ := e4 (by rw [e]; rfl)
        show RHp ρ st1.η st1.sz _
        rw [e6, e7]; exact hh
    obtain ⟨e5, e6⟩ := e5
    have hp : ∀ tbl, passL cl tbl (i :: l) (u :: us) s ⟨sz, tr, lg, nw⟩ done wr = bnd (seen u done tbl tr) (fun k => bnd2 (insM cl s ⟨sz, tr, lg, nw⟩ i k) (fun sh p => Prod.rec (motive := fun _ => Option ((S × H) × List (List P)))
        (fun s h => bnd (appX done [p.2]) (fun done => bnd (appX wr [p.1]) (fun wr => passL cl tbl l us s h done wr))) sh)) := fun _ => rfl
    -- the heap behind it
    obtain ⟨H2, log, tch, hm, hH, hlog, htch⟩ : ∃ H2 log tch, insM cl s ⟨sz, tr, lg, nw⟩ i k = some ((s1, H2), log, tch) ∧ RHp ρ (match u with | none => setE st st1.σ | some _ => st1).η (match u with | none => setE st st1.σ | some _ => st1).sz H2 ∧ (log ≠ [] → effI i = true) ∧ (tch ≠ [] → effI i = true) := by
      cases he : effI i with
      | false =>
        refine ⟨⟨sz, tr, lg, nw⟩, [], [], ?_, e6 he, fun h => absurd rfl h, fun h => absurd rfl h⟩
        have := e3 he
        subst this
        dsimp only [insM]
        rw [e1]; rfl
      | true =>
        obtain ⟨rfl, hrh⟩ := e5 he
        obtain ⟨sz', tr', log', nw'⟩ := h1'
        obtain ⟨t, ht⟩ := overL_ex (new := tr') (ids := log' ++ nw') (tr := k)
        refine ⟨⟨sz', t, log' ++ lg, nw' ++ nw⟩, log', log' ++ nw', ?_, ?_, fun _ => rfl, fun _ => rfl⟩
        · dsimp only [insM]
          rw [e1, bnd2_some]
          dsimp only
          rw [appX_eq, bnd_some, ht, bnd_some, appX_eq, bnd_some, appX_eq, bnd_some]
        · obtain ⟨_, lx, nx, m1, m2, m3, _⟩ := mon_ins hmc i (h := ⟨sz, k, [], []⟩) _ e1
          have m1 : log' = lx := by simpa using m1
          have m2 : nw' = nx := by simpa using m2
          refine ⟨fun b es hb => ?_, hrh.sz⟩
          obtain ⟨T, hT⟩ := hrh.row b es hb
          refine ⟨T, ?_⟩
          show t.get b = _
          rw [overL_get ht b]
          by_cases hmem : b ∈ log' ++ nw'
          · rw [if_pos hmem]; exact hT
          · rw [if_neg hmem]
            rw [List.mem_append, not_or] at hmem
            have := m3 b (m1 ▸ hmem.1) (m2 ▸ hmem.2)
            rw [← this]; exact hT
    obtain ⟨s2, h2', wr2, g1, g2, g3, g4⟩ := sP_ok hρ hsp hmc (l := l) (us := us) (st := match u with | none => setE st st1.σ | some _ => st1) (s := s1) (h := H2) (done := done ++ [tch]) (wr := wr ++ [log])
      (by rw [List.length_append]; exact hfd) (by simp [hl]) (hd.snoc fun h => by rw [hfl, htch h]) (hw.snoc fun h => by rw [← hl, hfl, hlog h]) (by cases u <;> exact e2) hH h2
    refine ⟨s2, h2', wr2, fun tbl ht => ?_, g2, g3, g4⟩
    rw [hp, hk tbl ht, bnd_some, hm]
    show bnd (appX done [tch]) (fun done => bnd (appX wr [log]) (fun wr => passL cl tbl l us s1 H2 done wr)) = _
    rw [appX_eq, bnd_some, appX_eq, bnd_some]
    exact g1 tbl ht
theorem sD_ok (hρ : ∀ n, hasT (τ n) (ρ n)) (hsp : SpOk ρ sp cl) (hmc : MonCall cl) {l : List I} {us : List (Option (List Nat))} (hs : RSg ρ st.σ s) (hh : RHp ρ st.η st.sz h) (hx : sD τ sp l us st = some st') :
    ∃ s' h', drwL cl l us s h = some (s', h') ∧ RSg ρ st'.σ s' ∧ RHp ρ st'.η st'.sz h' := by
  cases us with
  | nil => exact sL_ok hρ hsp hs hh hx
  | cons u us =>
    obtain ⟨s', h', wr', e1, e2, e3, e4⟩ := sP_ok hρ hsp hmc (done := []) (wr := []) (List.drop_zero ..) rfl Nils.nil Nils.nil hs hh (show sP τ sp (l.map effI) l (u :: us) st = some st' from hx)
    refine ⟨s', h', ?_, e3, e4⟩
    show drwP cl l (u :: us) s h = _
    unfold drwP
    rw [e1 [] Nils.nil, bnd2_some]
    cases allNil wr' with
    | true => rfl
    | false =>
      show bnd2 (passL cl wr' l (u :: us) s h [] []) _ = _
      rw [e1 wr' e2, bnd2_some]
      have : sameP wr' wr' = true := decide_eq_true rfl
      rw [this]; rfl
end
/-! code -/
inductive Rt | lf (vs : List Pv) | br (e : Ex) (a b : Rt)
noncomputable def ev (ρ : Nat → W) : Rt → List V
  | .lf vs => vs.map (dv ρ)
  | .br e a b => match dn ρ e with | .bool t => bif t then ev ρ a else ev ρ b | _ => []
abbrev Kt := X → Ss → Option Rt
noncomputable def kThen (r : Ss → Kt → Option Rt) (k : Kt) : Kt := fun x st => X.rec (motive := fun _ => Option Rt) (r st k) (fun j => k (.exit j) st) (k .ret st) x
noncomputable def kBlk (id : Nat) (k : Kt) : Kt := fun x st => X.rec (motive := fun _ => Option Rt) (k .nrm st) (fun j => bif Nat.beq j id then k .nrm st else k (.exit j) st) (k .ret st) x
noncomputable def sIf (τ : Nat → Ty) (e : Ex) (a b : Option Rt) : Option Rt :=
  match constB e with
  | some t => bif t then a else b
  | none => bif isTy .b (ty τ e) then bnd a fun a => bnd b fun b => some (.br e a b) else none
noncomputable def sC (τ : Nat → Ty) (sp : Sp) (n : Nat) : C → Ss → Kt → Option Rt :=
  Nat.rec (motive := fun _ => C → Ss → Kt → Option Rt) (fun _ _ _ => none) (fun _ ih c st k => match c with
    | .skip => k .nrm st
    | .ops l => bnd (sL τ sp l st) fun st => k .nrm st
    | .drw l us => bnd (sD τ sp l us st) fun st => k .nrm st
    | .seq a b => ih a st (kThen (ih b) k)
    | .cond c a b => bnd (rd st.σ none c) fun v => bnd (wordE v) fun e => sIf τ e (ih a st k) (ih b st k)
    | .blk id b => ih b st (kBlk id k)
    | .loop b => ih b st (kThen (ih (.loop b)) k)
    | .exit id => k (.exit id) st
    | .ret => k .ret st
    | _ => none) n
section
variable {ρ : Nat → W} {τ : Nat → Ty} {s s' : S} {h h' : H} {cl : Call} {sp : Sp} {gd : Gd} {st st' : Ss} {pu : Bool}
theorem run_drw {n : Nat} {l : List I} {us : List (Option (List Nat))} : runC cl (n + 1) (.drw l us) s h = bnd2 (drwL cl l us s h) (fun s h => some (.nrm, s, h)) := rfl
theorem sC_ok (hρ : ∀ n, hasT (τ n) (ρ n)) (hsp : SpOk ρ sp cl) (hmc : MonCall cl) : ∀ {n : Nat} {c : C} {st : Ss} {k : Kt} {r : Rt} {s : S} {h : H}, sC τ sp n c st k = some r → RSg ρ st.σ s → RHp ρ st.η st.sz h →
    ∃ x s' h' st' r', runC cl n c s h = some (x, s', h') ∧ RSg ρ st'.σ s' ∧ RHp ρ st'.η st'.sz h' ∧ k x st' = some r' ∧ ev ρ r = ev ρ r' := by
  intro n
  induction n with
  | zero => intro c st k r s h hx; cases hx
  | succ n ih =>
    intro c st k r s h hx hs hh
    cases c with
    | skip => exact ⟨.nrm, s, h, st, r, rfl, hs, hh, hx, rfl⟩
    | ops l =>
      obtain ⟨st1, h1, h2⟩ := bnd_eq.1 (show bnd (sL τ sp l st) (fun st => k .nrm st) = some r from hx)
      obtain ⟨s1, h1', e1, e2, e3⟩ := sL_ok hρ hsp hs hh h1
      exact ⟨.nrm, s1, h1', st1, r, by rw [run_ops, e1]; rfl, e2, e3, h2, rfl⟩
    | drw l us =>
      obtain ⟨st1, h1, h2⟩ := bnd_eq.1 (show bnd (sD τ sp l us st) (fun st => k .nrm st) = some r from hx)
      obtain ⟨s1, h1', e1, e2, e3⟩ := sD_ok hρ hsp hmc hs hh h1
      exact ⟨.nrm, s1, h1', st1, r, by rw [run_drw, e1]; rfl, e2, e3, h2, rfl⟩
    | seq a b =>
      obtain ⟨x, s1, h1, st1, r1, e1, e2, e3, e4, e5⟩ := ih (show sC τ sp n a st (kThen (sC τ sp n b) k) = some r from hx) hs hh
      rw [run_seq', e1, bnd3_some]
      cases x with
      | nrm =>
        obtain ⟨x, s2, h2, st2, r2, g1, g2, g3, g4, g5⟩ := ih (show sC τ sp n b st1 k = some r1 from e4) e2 e3
        exact ⟨x, s2, h2, st2, r2, by rw [then_nrm, g1], g2, g3, g4, e5.trans g5⟩
      | exit id => exact ⟨.exit id, s1, h1, st1, r1, then_exit, e2, e3, e4, e5⟩
      | ret => exact ⟨.ret, s1, h1, st1, r1, then_ret, e2, e3, e4, e5⟩
    | cond c a b =>
      obtain ⟨v, h1, h2⟩ := bnd_eq.1 (show bnd (rd st.σ none c) (fun v => bnd (wordE v) fun e => sIf τ e (sC τ sp n a st k) (sC τ sp n b st k)) = some r from hx)
      obtain ⟨e, h3, h4⟩ := bnd_eq.1 h2
      rw [run_cond, rd_ok (gd := none) hs (fun e c he => by cases he) h1, wordE_eq h3, bnd_some]
      show ∃ x s' h' st' r', onBool (V.w (dn ρ e)) _ _ = _ ∧ _
      unfold sIf at h4
      split at h4
      · rename_i t ht
        rw [constB_eq ht]
        show ∃ x s' h' st' r', onBool (V.w (W.bool t)) _ _ = _ ∧ _
        rw [onBool_b]
        cases t with
        | true => exact ih (show sC τ sp n a st k = some r from h4) hs hh
        | false => exact ih (show sC τ sp n b st k = some r from h4) hs hh
      · obtain ⟨h5, h6⟩ := bif_none.1 h4
        obtain ⟨ra, h7, h8⟩ := bnd_eq.1 h6
        obtain ⟨rb, h9, h10⟩ := bnd_eq.1 h8
        cases h10
        obtain ⟨t, ht⟩ := (ty_ok hρ _ _ (isTy_eq.1 h5)).1
        rw [ht, onBool_b]
        have hev : ev ρ (.br e ra rb) = bif t then ev ρ ra else ev ρ rb := by show (match dn ρ e with | .bool t => bif t then ev ρ ra else ev ρ rb | _ => []) = _; rw [ht]
        cases t with
        | true =>
          obtain ⟨x, s1, h1, st1, r1, e1, e2, e3, e4, e5⟩ := ih h7 hs hh
          exact ⟨x, s1, h1, st1, r1, e1, e2, e3, e4, hev.trans e5⟩
        | false =>
          obtain ⟨x, s1, h1, st1, r1, e1, e2, e3, e4, e5⟩ := ih h9 hs hh
          exact ⟨x, s1, h1, st1, r1, e1, e2, e3, e4, hev.trans e5⟩
    | blk id b =>
      obtain ⟨x, s1, h1, st1, r1, e1, e2, e3, e4, e5⟩ := ih (show sC τ sp n b st (kBlk id k) = some r from hx) hs hh
      show ∃ x s' h' st' r', bnd3 (runC cl n b s h) (outB id) = _ ∧ _
      rw [e1, bnd3_some]
      cases x with
      | nrm => exact ⟨.nrm, s1, h1, st1, r1, rfl, e2, e3, e4, e5⟩
      | exit j =>
        have e4 : (bif Nat.beq j id then k .nrm st1 else k (.exit j) st1) = some r1 := e4
        show ∃ x s' h' st' r', Bool.rec (motive := fun _ => RC) (some (.exit j, s1, h1)) (some (.nrm, s1, h1)) (Nat.beq j id) = _ ∧ _
        cases hj : Nat.beq j id with
        | true => rw [hj] at e4; exact ⟨.nrm, s1, h1, st1, r1, rfl, e2, e3, e4, e5⟩
        | false => rw [hj] at e4; exact ⟨.exit j, s1, h1, st1, r1, rfl, e2, e3, e4, e5⟩
      | ret => exact ⟨.ret, s1, h1, st1, r1, rfl, e2, e3, e4, e5⟩
    | loop b =>
      obtain ⟨x, s1, h1, st1, r1, e1, e2, e3, e4, e5⟩ := ih (show sC τ sp n b st (kThen (sC τ sp n (.loop b)) k) = some r from hx) hs hh
      show ∃ x s' h' st' r', bnd3 (runC cl n b s h) (thenC (runC cl n) (.loop b)) = _ ∧ _
      rw [e1, bnd3_some]
      cases x with
      | nrm =>
        obtain ⟨x, s2, h2, st2, r2, g1, g2, g3, g4, g5⟩ := ih (show sC τ sp n (.loop b) st1 k = some r1 from e4) e2 e3
        exact ⟨x, s2, h2, st2, r2, by rw [then_nrm, g1], g2, g3, g4, e5.trans g5⟩
      | exit id => exact ⟨.exit id, s1, h1, st1, r1, then_exit, e2, e3, e4, e5⟩
      | ret => exact ⟨.ret, s1, h1, st1, r1, then_ret, e2, e3, e4, e5⟩
    | exit id => exact ⟨.exit id, s, h, st, r, rfl, hs, hh, hx, rfl⟩
    | ret => exact ⟨.ret, s, h, st, r, rfl, hs, hh, hx, rfl⟩
    | rngf _ _ _ _ => cases hx
    | mfor _ _ _ _ _ _ _ _ _ _ _ _ => cases hx
    | bad => cases hx
end
end Go.Am
