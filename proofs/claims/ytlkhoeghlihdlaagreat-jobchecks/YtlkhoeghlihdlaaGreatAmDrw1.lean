import Derived.Test.YtlkhoeghlihdlaaGreatAmMfor
import Derived.OrdersIn
namespace Go.Am
set_option autoImplicit false
set_option linter.unusedSimpArgs false
set_option linter.unusedVariables false

/-! what the operations done (D) have left of an object and of a slot, in the order of the text; beside it, how many names there were when it was left -/
noncomputable def vw (h0 : H) (zz : Nat → Nat) (hh : Nat → H) (tt : Nat → List P) (D : Nat → Bool) : Nat → P → Option O × Nat
  | 0, b => (h0.tr.get b, zz 0)
  | j + 1, b => if D j = true ∧ b ∈ tt j then ((hh j).tr.get b, zz (j + 1)) else vw h0 zz hh tt D j b
noncomputable def sw (s0 : S) (zz : Nat → Nat) (dd : Nat → Option P) (vv : Nat → V) (D : Nat → Bool) : Nat → P → Option V × Nat
  | 0, p => (s0.get p, zz 0)
  | j + 1, p => if D j = true ∧ dd j = some p then (some (vv j), zz (j + 1)) else sw s0 zz dd vv D j p
noncomputable def setS (s : S) (d : Option P) (v : V) : S := match d with | none => s | some d => Tr.put (some v) d s
def all : Nat → Bool := fun _ => true

structure Tra (cl : Call) (n : Nat) (h0 : H) (anc : Nat → Nat → Prop) where
  ii : Nat → I
  ss : Nat → S
  vv : Nat → V
  kk : Nat → H
  hh : Nat → H
  ll : Nat → List P
  nn : Nat → List P
  zz : Nat → Nat
  sp : Nat → Bool
  zero : zz 0 = h0.sz.nat
  run : ∀ j, j < n → sp j = false → insV cl (ss j) (kk j) (ii j) = some (vv j, hh j)
  set : ∀ j, j < n → ss (j + 1) = setS (ss j) (ii j).d (vv j)
  szk : ∀ j, j < n → (kk j).sz.nat = zz j
  szh : ∀ j, j < n → (hh j).sz.nat = zz (j + 1)
  mono : ∀ j, j < n → zz j ≤ zz (j + 1)
  log : ∀ j, j < n → (hh j).log = ll j ++ (kk j).log ∧ (hh j).nw = nn j ++ (kk j).nw
  lold : ∀ j, j < n → ∀ b ∈ ll j, b ∈ nn j ∨ ∃ o, (kk j).tr.get b = some o ∧ o.mut = true
  nrng : ∀ j, j < n → ∀ b ∈ nn j, zz j ≤ b.nat ∧ b.nat < zz (j + 1)
  nall : ∀ j, j < n → ∀ b : P, zz j ≤ b.nat → b.nat < zz (j + 1) → b ∈ nn j
  view : ∀ j, j < n → ∀ b o, (kk j).tr.get b = some o → o ≠ .dead → (vw h0 zz hh (fun j => ll j ++ nn j) all j b).1 = some o ∧ ∀ i, i < n → i ≠ j → b ∈ ll i ++ nn i → anc i j ∨ anc j i
  low : ∀ b o, h0.tr.get b = some o → o ≠ .dead → b.nat < zz 0
  slot : ∀ i j, i < n → j < n → i ≠ j → ¬ anc i j → ¬ anc j i → ∀ d, (ii i).d = some d → d ∉ rI (ii j) ∧ (ii j).d ≠ some d
  ancl : ∀ i j, i < n → j < n → anc i j → i < j
  spl : ∀ j, j < n → sp j = true → ll j = [] ∧ nn j = []
  spv : ∀ j, j < n → sp j = true → ∀ D : Nat → Bool, (∀ i k, i < n → k < n → anc i k → D k = true → D i = true) → D j = false → (∀ i, i < n → anc i j → D i = true) →
    ∃ (K : H) (kd : IntKind) (m : Int), vv j = .w (.int kd m) ∧ K.sz.nat = zz n ∧ insV cl (ss j) K (ii j) = some (vv j, K) ∧ ∀ b o, K.tr.get b = some o → o ≠ .dead → (vw h0 zz hh (fun j => ll j ++ nn j) D n b).1 = some o

section
variable {cl : Call} {n : Nat} {h0 : H} {anc : Nat → Nat → Prop} (t : Tra cl n h0 anc)
namespace Tra
def tt (j : Nat) : List P := t.ll j ++ t.nn j
noncomputable def vw (D : Nat → Bool) (j : Nat) (b : P) : Option O × Nat := Go.Am.vw h0 t.zz t.hh t.tt D j b
noncomputable def sw (D : Nat → Bool) (j : Nat) (p : P) : Option V × Nat := Go.Am.sw (t.ss 0) t.zz (fun j => (t.ii j).d) t.vv D j p
theorem vw_zero (D : Nat → Bool) (b : P) : t.vw D 0 b = (h0.tr.get b, t.zz 0) := rfl
theorem vw_succ (D : Nat → Bool) (j : Nat) (b : P) : t.vw D (j + 1) b = if D j = true ∧ b ∈ t.tt j then ((t.hh j).tr.get b, t.zz (j + 1)) else t.vw D j b := rfl
theorem sw_zero (D : Nat → Bool) (p : P) : t.sw D 0 p = ((t.ss 0).get p, t.zz 0) := rfl
theorem sw_succ (D : Nat → Bool) (j : Nat) (p : P) : t.sw D (j + 1) p = if D j = true ∧ (t.ii j).d = some p then (some (t.vv j), t.zz (j + 1)) else t.sw D j p := rfl
theorem zz_le {i j : Nat} (hij : i ≤ j) (hj : j ≤ n) : t.zz i ≤ t.zz j := by
  induction j with
  | zero => have : i = 0 := by omega
            subst this; exact Nat.le_refl _
  | succ j ih =>
    rcases Nat.lt_or_ge j i with h | h
    · have : i = j + 1 := by omega
      subst this; exact Nat.le_refl _
    · exact Nat.le_trans (ih h (by omega)) (t.mono j (by omega))
theorem view' {j : Nat} (hj : j < n) {b : P} {o : O} (hb : (t.kk j).tr.get b = some o) (ho : o ≠ .dead) : (t.vw all j b).1 = some o := (t.view j hj b o hb ho).1
theorem order {j : Nat} (hj : j < n) {b : P} {o : O} (hb : (t.kk j).tr.get b = some o) (ho : o ≠ .dead) {i : Nat} (hi : i < n) (hij : i ≠ j) (ht : b ∈ t.tt i) : anc i j ∨ anc j i := (t.view j hj b o hb ho).2 i hi hij ht
/-- what lives has a name below the count of names -/
theorem vlt : ∀ {j : Nat}, j ≤ n → ∀ {b : P} {o : O}, (t.vw all j b).1 = some o → o ≠ .dead → b.nat < t.zz j
  | 0, _, b, o, hb, ho => t.low b o hb ho
  | j + 1, hj, b, o, hb, ho => by
    have hm := t.mono j (by omega)
    rw [vw_succ] at hb
    split at hb
    · rename_i hc
      rcases List.mem_append.1 hc.2 with h | h
      · rcases t.lold j (by omega) b h with k | ⟨o1, k1, k2⟩
        · exact (t.nrng j (by omega) b k).2
        · have := vlt (j := j) (by omega) (t.view' (by omega) k1 (O.mut_ne k2)) (O.mut_ne k2)
          omega
      · exact (t.nrng j (by omega) b h).2
    · have := vlt (j := j) (by omega) hb ho
      omega
theorem klt {j : Nat} (hj : j < n) {b : P} {o : O} (hb : (t.kk j).tr.get b = some o) (ho : o ≠ .dead) : b.nat < t.zz j := t.vlt (by omega) (t.view' hj hb ho) ho
theorem tlt {j : Nat} (hj : j < n) {b : P} (hb : b ∈ t.tt j) : b.nat < t.zz (j + 1) := by
  have hm := t.mono j hj
  rcases List.mem_append.1 hb with h | h
  · rcases t.lold j hj b h with k | ⟨o1, k1, k2⟩
    · exact (t.nrng j hj b k).2
    · have := t.klt hj k1 (O.mut_ne k2)
      omega
  · exact (t.nrng j hj b h).2
/-- operations without order between them touch nothing in common -/
theorem apart {i j : Nat} (hi : i < n) (hj : j < n) (hij : i ≠ j) (h1 : ¬ anc i j) (h2 : ¬ anc j i) {b : P} (hb : b ∈ t.tt i) : b ∉ t.tt j := by
  have key : ∀ {i j : Nat}, i < n → j < n → i < j → ¬ anc i j → ¬ anc j i → ∀ {b : P}, b ∈ t.tt i → b ∈ t.tt j → False := by
    intro i j hi hj hij h1 h2 b hb hb'
    have hlt := t.tlt hi hb
    have hle := t.zz_le (i := i + 1) (j := j) (by omega) (by omega)
    have hl : b ∉ t.nn j := fun hn => by have := (t.nrng j hj b hn).1; omega
    rcases List.mem_append.1 hb' with h | h
    · rcases t.lold j hj b h with k | ⟨o1, k1, k2⟩
      · exact hl k
      · rcases t.order hj k1 (O.mut_ne k2) hi (by omega) hb with k | k
        · exact h1 k
        · exact h2 k
    · exact hl h
  intro hb'
  rcases Nat.lt_or_ge i j with h | h
  · exact key hi hj h h1 h2 hb hb'
  · exact key hj hi (by omega) h2 h1 hb' hb

/-! a set of operations that are done -/
structure Closed (anc : Nat → Nat → Prop) (n : Nat) (D : Nat → Bool) : Prop where
  down : ∀ i j, i < n → j < n → anc i j → D j = true → D i = true
section
variable {D : Nat → Bool} {j : Nat}
theorem vw_skip {b : P} : ∀ {m m' : Nat}, m ≤ m' → (∀ i, m ≤ i → i < m' → ¬ (D i = true ∧ b ∈ t.tt i)) → t.vw D m' b = t.vw D m b := by
  intro m m' hm
  induction m' with
  | zero => intro _; have : m = 0 := by omega
            subst this; rfl
  | succ m' ih =>
    intro h
    rcases Nat.lt_or_ge m' m with h1 | h1
    · have : m = m' + 1 := by omega
      subst this; rfl
    · rw [vw_succ, if_neg (h m' h1 (by omega))]
      exact ih h1 fun i h2 h3 => h i h2 (by omega)
theorem sw_skip {p : P} : ∀ {m m' : Nat}, m ≤ m' → (∀ i, m ≤ i → i < m' → ¬ (D i = true ∧ (t.ii i).d = some p)) → t.sw D m' p = t.sw D m p := by
  intro m m' hm
  induction m' with
  | zero => intro _; have : m = 0 := by omega
            subst this; rfl
  | succ m' ih =>
    intro h
    rcases Nat.lt_or_ge m' m with h1 | h1
    · have : m = m' + 1 := by omega
      subst this; rfl
    · rw [sw_succ, if_neg (h m' h1 (by omega))]
      exact ih h1 fun i h2 h3 => h i h2 (by omega)
theorem vw_same {D' : Nat → Bool} {b : P} : ∀ {m : Nat}, (∀ i, i < m → b ∈ t.tt i → D i = D' i) → t.vw D m b = t.vw D' m b
  | 0, _ => rfl
  | m + 1, h => by
    rw [vw_succ, vw_succ, vw_same (fun i hi => h i (by omega))]
    by_cases hb : b ∈ t.tt m
    · rw [h m (by omega) hb]
    · simp [hb]
theorem sw_same {D' : Nat → Bool} {p : P} : ∀ {m : Nat}, (∀ i, i < m → (t.ii i).d = some p → D i = D' i) → t.sw D m p = t.sw D' m p
  | 0, _ => rfl
  | m + 1, h => by
    rw [sw_succ, sw_succ, sw_same (fun i hi => h i (by omega))]
    by_cases hb : (t.ii m).d = some p
    · rw [h m (by omega) hb]
    · simp [hb]
theorem vw_bound : ∀ {m : Nat}, m ≤ n → ∀ {b : P}, (t.vw D m b).2 ≤ t.zz m
  | 0, _, b => Nat.le_refl _
  | m + 1, hm, b => by
    rw [vw_succ]
    split
    · exact Nat.le_refl _
    · exact Nat.le_trans (vw_bound (by omega)) (t.mono m (by omega))
theorem sw_bound : ∀ {m : Nat}, m ≤ n → ∀ {b : P}, (t.sw D m b).2 ≤ t.zz m
  | 0, _, b => Nat.le_refl _
  | m + 1, hm, b => by
    rw [sw_succ]
    split
    · exact Nat.le_refl _
    · exact Nat.le_trans (sw_bound (by omega)) (t.mono m (by omega))
/-- what the next operation sees is what is there -/
theorem sees (hc : Closed anc n D) (hj : j < n) (hD : D j = false) (hr : ∀ i, i < n → anc i j → D i = true) {b : P} {o : O} (hb : (t.kk j).tr.get b = some o) (ho : o ≠ .dead) :
    (t.vw D n b).1 = some o ∧ (t.vw D n b).2 ≤ t.zz j := by
  have e1 : t.vw D n b = t.vw D j b := t.vw_skip (by omega) fun i h1 h2 h3 => by
    rcases Nat.lt_or_ge j i with h | h
    · rcases t.order hj hb ho h2 (by omega) h3.2 with k | k
      · have := t.ancl i j h2 hj k; omega
      · have := hc.down j i hj h2 k h3.1; rw [hD] at this; cases this
    · have : i = j := by omega
      subst this; rw [hD] at h3; cases h3.1
  have e2 : t.vw D j b = t.vw all j b := t.vw_same fun i hi hb' => by
    rcases t.order hj hb ho (i := i) (by omega) (by omega) hb' with k | k
    · exact hr i (by omega) k
    · have := t.ancl j i hj (by omega) k; omega
  rw [e1]
  exact ⟨by rw [e2]; exact t.view' hj hb ho, t.vw_bound (by omega)⟩
theorem reads (hc : Closed anc n D) (hj : j < n) (hD : D j = false) (hr : ∀ i, i < n → anc i j → D i = true) {p : P} (hp : p ∈ rI (t.ii j)) :
    (t.sw D n p).1 = (t.ss j).get p ∧ (t.sw D n p).2 ≤ t.zz j := by
  have ord : ∀ i, i < n → i ≠ j → (t.ii i).d = some p → anc i j ∨ anc j i := fun i hi hij hd => by
    by_cases h1 : anc i j
    · exact .inl h1
    · by_cases h2 : anc j i
      · exact .inr h2
      · exact absurd hp (t.slot i j hi hj hij h1 h2 p hd).1
  have e1 : t.sw D n p = t.sw D j p := t.sw_skip (by omega) fun i h1 h2 h3 => by
    rcases Nat.lt_or_ge j i with h | h
    · rcases ord i h2 (by omega) h3.2 with k | k
      · have := t.ancl i j h2 hj k; omega
      · have := hc.down j i hj h2 k h3.1; rw [hD] at this; cases this
    · have : i = j := by omega
      subst this; rw [hD] at h3; cases h3.1
  have e2 : t.sw D j p = t.sw all j p := t.sw_same fun i hi hb' => by
    rcases ord i (by omega) (by omega) hb' with k | k
    · exact hr i (by omega) k
    · have := t.ancl j i hj (by omega) k; omega
  have e3 : ∀ m, m ≤ n → (t.sw all m p).1 = (t.ss m).get p := by
    intro m
    induction m with
    | zero => intro _; rfl
    | succ m ih =>
      intro hm
      rw [sw_succ, t.set m (by omega)]
      cases hd : (t.ii m).d with
      | none => simp [setS, ih (by omega)]
      | some d =>
        simp only [setS, Option.some.injEq, Tr.get_put]
        by_cases hdp : d = p
        · subst hdp; simp [all]
        · rw [if_neg (fun h => hdp h.2), if_neg (fun h => hdp h.symm)]; exact ih (by omega)
  rw [e1]
  exact ⟨by rw [e2]; exact e3 j (by omega), t.sw_bound (by omega)⟩
theorem sw_all {p : P} : (t.sw all n p).1 = (t.ss n).get p := by
  have e3 : ∀ m, m ≤ n → (t.sw all m p).1 = (t.ss m).get p := by
    intro m
    induction m with
    | zero => intro _; rfl
    | succ m ih =>
      intro hm
      rw [sw_succ, t.set m (by omega)]
      cases hd : (t.ii m).d with
      | none => simp [setS, ih (by omega)]
      | some d =>
        simp only [setS, Option.some.injEq, Tr.get_put]
        by_cases hdp : d = p
        · subst hdp; simp [all]
        · rw [if_neg (fun h => hdp h.2), if_neg (fun h => hdp h.symm)]; exact ih (by omega)
  exact e3 n (Nat.le_refl _)
def add (D : Nat → Bool) (j : Nat) : Nat → Bool := fun i => D i || decide (i = j)
theorem add_ne {i : Nat} (h : i ≠ j) : add D j i = D i := by simp [add, h]
theorem add_same : add D j j = true := by simp [add]
theorem vw_add (hc : Closed anc n D) (hj : j < n) (hD : D j = false) (b : P) : t.vw (add D j) n b = if b ∈ t.tt j then ((t.hh j).tr.get b, t.zz (j + 1)) else t.vw D n b := by
  split
  · rename_i hb
    have e1 : t.vw (add D j) n b = t.vw (add D j) (j + 1) b := t.vw_skip (by omega) fun i h1 h2 h3 => by
      rw [add_ne (by omega)] at h3
      refine t.apart hj h2 (by omega) (fun k => ?_) (fun k => ?_) hb h3.2
      · have := hc.down j i hj h2 k h3.1; rw [hD] at this; cases this
      · have := t.ancl i j h2 hj k; omega
    rw [e1, vw_succ, if_pos ⟨add_same, hb⟩]
  · rename_i hb
    exact t.vw_same fun i hi hb' => add_ne fun e => by subst e; exact hb hb'
theorem sw_add (hc : Closed anc n D) (hj : j < n) (hD : D j = false) (p : P) : t.sw (add D j) n p = if (t.ii j).d = some p then (some (t.vv j), t.zz (j + 1)) else t.sw D n p := by
  split
  · rename_i hb
    have e1 : t.sw (add D j) n p = t.sw (add D j) (j + 1) p := t.sw_skip (by omega) fun i h1 h2 h3 => by
      rw [add_ne (by omega)] at h3
      refine (t.slot i j h2 hj (by omega) (fun k => ?_) (fun k => ?_) p h3.2).2 hb
      · have := t.ancl i j h2 hj k; omega
      · have := hc.down j i hj h2 k h3.1; rw [hD] at this; cases this
    rw [e1, sw_succ, if_pos ⟨add_same, hb⟩]
  · rename_i hb
    exact t.sw_same fun i hi hb' => add_ne fun e => by subst e; exact hb hb'
theorem add_closed (hc : Closed anc n D) (hr : ∀ i, i < n → anc i j → D i = true) : Closed anc n (add D j) := ⟨fun i k hi hk ha hd => by
  by_cases e : k = j
  · subst e; simp [add, hr i hi ha]
  · rw [add_ne e] at hd
    simp [add, hc.down i k hi hk ha hd]⟩
end
end Tra
end
end Go.Am
namespace Go.Am
set_option autoImplicit false
set_option linter.unusedSimpArgs false
set_option linter.unusedVariables false

def Phi.res (φ : Phi) (z : Nat) : Phi := fun b => if b.nat < z then φ b else none
theorem Phi.res_lt {φ : Phi} {z : Nat} {b : P} (h : b.nat < z) : φ.res z b = φ b := by simp [Phi.res, h]
theorem Phi.res_ge {φ : Phi} {z : Nat} {b : P} (h : z ≤ b.nat) : φ.res z b = none := by simp [Phi.res]; omega
theorem Phi.res_some {φ : Phi} {z : Nat} {b : P} {i : Inf} (h : φ.res z b = some i) : b.nat < z ∧ φ b = some i := by
  rcases Nat.lt_or_ge b.nat z with k | k
  · exact ⟨k, by rw [← Phi.res_lt (φ := φ) k]; exact h⟩
  · rw [Phi.res_ge k] at h; cases h
theorem Phi.res_le (φ : Phi) (z : Nat) : Le (φ.res z) φ := fun b i h => (Phi.res_some h).2
theorem Phi.res_mono {φ φ' : Phi} {z z' : Nat} (hl : Le φ φ') (h : z ≤ z') : Le (φ.res z) (φ'.res z') := fun b i hb => by
  obtain ⟨h1, h2⟩ := Phi.res_some hb
  rw [Phi.res_lt (Nat.lt_of_lt_of_le h1 h)]; exact hl _ _ h2

section
variable {cr : CR} {B0 : Nat} {φ : Phi} {h h' : H} {w : World} {p : Program} {o : Oper} {s s' : S} {a : Act} {v : V} {F : Fence} {n N : Nat} {ops : Array Oper} {cl : Call}
/-- one operation, guard and all, and what it yields -/
theorem insV_sound (hF : Wide F) (hcl : CallSound cr p cl) {i : I} (hk : okI p N ops o i = true) (hs : RelS φ s a.tmps) (sim : Sim cr B0 φ h w) (hx : insV cl s h i = some (v, h'))
    {next : Act → World → Prop} {Q : Exit → Act → World → Prop} (k : ∀ v' w', Res cr B0 φ h w v h' v' w' → next (a.put o.dst v') w') :
    if Region.wanted o (yielded ops a.tmps) then o.wpIn F n p a w next Q else (∀ f, o.about p w a.eval = some f → F.fn f) ∧ next (a.put o.dst undef) w := by
  simp only [okI, Bool.and_eq_true] at hk
  obtain ⟨⟨h1, h2⟩, h3⟩ := hk
  obtain ⟨d, x, g⟩ := i
  obtain ⟨b, k1, k2⟩ := bnd_eq.1 hx
  rw [guard_sound h2 hs rfl k1]
  cases b with
  | false =>
    rw [if_neg (by simp)]
    cases k2
    exact ⟨fun f _ => hF.fn f, k _ w ⟨φ, sim, Ext.refl sim, #[], rfl, trivial⟩⟩
  | true =>
    rw [if_pos rfl]
    exact act_sound hF hcl h3 hs sim k2 k
end
noncomputable def mkR (s : S) : List P → S
  | [] => .e
  | p :: l => Tr.put (s.get p) p (mkR s l)
theorem mkR_get (s : S) : ∀ (l : List P) (p : P), (mkR s l).get p = if p ∈ l then s.get p else none
  | [], p => by simp [mkR]
  | q :: l, p => by
    rw [mkR, Tr.get_put]
    by_cases h : p = q
    · subst h; simp
    · simp [h, mkR_get s l p]

structure SD (cr : CR) (B0 N : Nat) {cl : Call} {n : Nat} {h0 : H} {anc : Nat → Nat → Prop} (t : Tra cl n h0 anc) (φ0 : Phi) (w0 : World) (ds : List Deferred) (D : Nat → Bool) (φ : Phi) (a : Act) (w : World) : Prop where
  old : ∀ b : P, b.nat < t.zz 0 → φ b = φ0 b
  fresh : ∀ b : P, φ b ≠ none → b.nat < t.zz 0 ∨ ∃ i, i < n ∧ D i = true ∧ t.zz i ≤ b.nat ∧ b.nat < t.zz (i + 1)
  dom : ∀ b i c, φ b = some i → i.blk = some c → c < w.heap.size
  obj : ∀ b o, (t.vw D n b).1 = some o → o ≠ .dead → ∃ i, φ b = some i ∧ ObjRel cr (φ.res (t.vw D n b).2) w o i
  sep : ∀ b b' o o' i i' c, (t.vw D n b).1 = some o → (t.vw D n b').1 = some o' → o.mut = true → o' ≠ .dead → φ b = some i → φ b' = some i' → i.blk = some c → i'.blk = some c → b = b'
  low : ∀ b o i c, (t.vw D n b).1 = some o → o.mut = true → φ b = some i → i.blk = some c → B0 ≤ c
  top : B0 ≤ w.heap.size
  slots : ∀ p v, (t.sw D n p).1 = some v → ∃ v', a.tmps[p.nat]? = some v' ∧ RelV (φ.res (t.sw D n p).2) v v'
  room : N ≤ a.tmps.size
  defers : a.defers = ds
  size : w0.heap.size ≤ w.heap.size
  os : w.os = w0.os
  tape : w.tape = w0.tape
  output : w.output = w0.output
  chg : ∀ c, c < w0.heap.size → (∀ i, i < n → D i = true → ∀ b ∈ t.ll i, ∀ k, φ0 b = some k → k.blk ≠ some c) → w.heap[c]? = w0.heap[c]?
  new : ∀ b k c, t.zz 0 ≤ b.nat → φ b = some k → k.blk = some c → w0.heap.size ≤ c ∨ ∃ i, i < n ∧ D i = true ∧ ∃ b0 ∈ t.ll i, ∃ k0, φ0 b0 = some k0 ∧ k0.blk = some c

section
variable {cr : CR} {B0 N : Nat} {cl : Call} {n : Nat} {h0 : H} {anc : Nat → Nat → Prop} {t : Tra cl n h0 anc} {φ0 φ : Phi} {w0 w : World} {ds : List Deferred} {D : Nat → Bool} {a : Act} {j : Nat}
theorem SD.sim (x : SD cr B0 N t φ0 w0 ds D φ a w) (hc : Tra.Closed anc n D) (hj : j < n) (hD : D j = false) (hr : ∀ i, i < n → anc i j → D i = true) :
    Sim cr B0 (φ.res (t.zz j)) (t.kk j) w ∧ RelS (φ.res (t.zz j)) (mkR (t.ss j) (rI (t.ii j))) a.tmps := by
  have hz := t.szk j hj
  refine ⟨⟨fun b hb => ⟨Phi.res_ge (by omega), fun o ho => ?_⟩, fun b i c hb hi => x.dom b i c (Phi.res_le _ _ _ _ hb) hi, fun b o hb ho => ?_, fun b b' o o' i i' c h1 h2 hm hne p1 p2 k1 k2 => ?_, fun b o i c hb hm hi hc' => ?_, x.top⟩, ?_⟩
  · by_cases hd : o = .dead
    · exact hd
    · have := t.klt hj ho hd; omega
  · obtain ⟨k1, k2⟩ := t.sees hc hj hD hr hb ho
    obtain ⟨i, e1, e2⟩ := x.obj b o k1 ho
    exact ⟨i, by rw [Phi.res_lt (t.klt hj hb ho)]; exact e1, e2.mono (Phi.res_mono (Le.refl _) k2) fun _ _ => rfl⟩
  · exact x.sep b b' o o' i i' c (t.sees hc hj hD hr h1 (O.mut_ne hm)).1 (t.sees hc hj hD hr h2 hne).1 hm hne (Phi.res_le _ _ _ _ p1) (Phi.res_le _ _ _ _ p2) k1 k2
  · exact x.low b o i c (t.sees hc hj hD hr hb (O.mut_ne hm)).1 hm (Phi.res_le _ _ _ _ hi) hc'
  · intro p v hp
    rw [mkR_get] at hp
    split at hp
    · rename_i hin
      obtain ⟨k1, k2⟩ := t.reads hc hj hD hr hin
      obtain ⟨v', e1, e2⟩ := x.slots p v (by rw [k1]; exact hp)
      exact ⟨v', e1, e2.mono (Phi.res_mono (Le.refl _) k2)⟩
    · cases hp

theorem SD.next (x : SD cr B0 N t φ0 w0 ds D φ a w) (hc : Tra.Closed anc n D) (hj : j < n) (hD : D j = false) (hr : ∀ i, i < n → anc i j → D i = true) {d : Option Tmp} (hd : okDst N d (t.ii j).d = true)
    {v' : Value} {w' : World} (res : Res cr B0 (φ.res (t.zz j)) (t.kk j) w (t.vv j) (t.hh j) v' w') : ∃ φ2, SD cr B0 N t φ0 w0 ds (Tra.add D j) φ2 (a.put d v') w' := by
  obtain ⟨φ', s1, e1, rv⟩ := res
  have hzk := t.szk j hj
  have hzh := t.szh j hj
  have hm := t.mono j hj
  have h0j := t.zz_le (i := 0) (j := j) (by omega) (by omega)
  obtain ⟨l, n', a1, a2, a3, a4, a5, a6, a7, a8⟩ := e1.log
  have el : l = t.ll j := List.append_cancel_right (a1.symm.trans (t.log j hj).1)
  subst el
  have f1 : ∀ b : P, b.nat < t.zz j → φ' b = φ b := fun b hb => by rw [e1.old b (by omega), Phi.res_lt hb]
  have f2 : ∀ b : P, t.zz (j + 1) ≤ b.nat → φ' b = none := fun b hb => (s1.fresh b (by omega)).1
  have f4 : ∀ b : P, t.zz j ≤ b.nat → b.nat < t.zz (j + 1) → φ b = none := fun b hb1 hb2 => by
    by_cases hn : φ b = none
    · exact hn
    · rcases x.fresh b hn with k | ⟨i, k1, k2, k3, k4⟩
      · omega
      · rcases Nat.lt_trichotomy i j with h | h | h
        · have := t.zz_le (i := i + 1) (j := j) (by omega) (by omega); omega
        · subst h; rw [hD] at k2; cases k2
        · have := t.zz_le (i := j + 1) (j := i) (by omega) (by omega); omega
  let φ2 : Phi := fun b => if t.zz j ≤ b.nat ∧ b.nat < t.zz (j + 1) then φ' b else φ b
  have g1 : ∀ b : P, t.zz j ≤ b.nat → b.nat < t.zz (j + 1) → φ2 b = φ' b := fun b h1 h2 => if_pos ⟨h1, h2⟩
  have g2 : ∀ b : P, ¬ (t.zz j ≤ b.nat ∧ b.nat < t.zz (j + 1)) → φ2 b = φ b := fun b h1 => if_neg h1
  have f3 : φ' = φ2.res (t.zz (j + 1)) := by
    funext b
    rcases Nat.lt_or_ge b.nat (t.zz (j + 1)) with h | h
    · rw [Phi.res_lt h]
      rcases Nat.lt_or_ge b.nat (t.zz j) with k | k
      · rw [g2 b (by omega), f1 b k]
      · rw [g1 b k h]
    · rw [Phi.res_ge h, f2 b h]
  have f5 : Le φ φ2 := fun b i hb => by
    by_cases h : t.zz j ≤ b.nat ∧ b.nat < t.zz (j + 1)
    · rw [f4 b h.1 h.2] at hb; cases hb
    · rw [g2 b h]; exact hb
  have f6 : ∀ b : P, b.nat < t.zz (j + 1) → φ' b = φ2 b := fun b hb => by rw [f3, Phi.res_lt hb]
  have hwz := e1.size
  have mutl : ∀ b ∈ t.ll j, b.nat < t.zz j → ∃ o, (t.vw D n b).1 = some o ∧ o.mut = true := fun b hb hlt => by
    obtain ⟨o, k1, k2⟩ := (a8 b hb).2 (by omega)
    exact ⟨o, (t.sees hc hj hD hr k1 (O.mut_ne k2)).1, k2⟩
  have X : ∀ b b' i i' c o', b ∈ t.tt j → φ2 b = some i → i.blk = some c → b' ∉ t.tt j → (t.vw D n b').1 = some o' → o' ≠ .dead → φ b' = some i' → i'.blk = some c → False := by
    intro b b' i i' c o' hb hi hic hb' ho' hne hi' hic'
    have hblt := t.tlt hj hb
    rcases Nat.lt_or_ge b.nat (t.zz j) with k | k
    · have hbl : b ∈ t.ll j := (List.mem_append.1 hb).resolve_right fun hn => by have := (t.nrng j hj b hn).1; omega
      obtain ⟨o, m1, m2⟩ := mutl b hbl k
      rw [g2 b (by omega)] at hi
      have := x.sep b b' o o' i i' c m1 ho' m2 hne hi hi' hic hic'
      subst this; exact hb' hb
    · rw [g1 b k hblt] at hi
      rcases a7 b i c (by omega) hi hic with m | ⟨b0, m1, i0, m2, m3⟩
      · have := x.dom b' i' c hi' hic'; omega
      · obtain ⟨m4, m5⟩ := Phi.res_some m2
        obtain ⟨o, m6, m7⟩ := mutl b0 m1 m4
        have := x.sep b0 b' o o' i0 i' c m6 ho' m7 hne m5 hi' m3 hic'
        subst this; exact hb' (List.mem_append_left _ m1)
  have keep : ∀ b o i, (t.vw D n b).1 = some o → o ≠ .dead → φ2 b = some i → φ b = some i := fun b o i hb ho hi => by
    obtain ⟨i1, k1, _⟩ := x.obj b o hb ho
    rw [f5 _ _ k1] at hi; cases hi; exact k1
  have hvw : ∀ b, t.vw (Tra.add D j) n b = if b ∈ t.tt j then ((t.hh j).tr.get b, t.zz (j + 1)) else t.vw D n b := t.vw_add hc hj hD
  refine ⟨φ2, ?_⟩
  constructor
  case old => intro b hb; rw [g2 b (by omega)]; exact x.old b hb
  case fresh =>
    intro b hb
    by_cases h : t.zz j ≤ b.nat ∧ b.nat < t.zz (j + 1)
    · exact .inr ⟨j, hj, Tra.add_same, h⟩
    · rw [g2 b h] at hb
      rcases x.fresh b hb with k | ⟨i, k1, k2, k3⟩
      · exact .inl k
      · exact .inr ⟨i, k1, by simp [Tra.add, k2], k3⟩
  case dom =>
    intro b i c hb hi
    by_cases h : t.zz j ≤ b.nat ∧ b.nat < t.zz (j + 1)
    · rw [g1 b h.1 h.2] at hb; exact s1.dom b i c hb hi
    · rw [g2 b h] at hb; have := x.dom b i c hb hi; omega
  case obj =>
    intro b o hb ho
    rw [hvw b] at hb ⊢
    split at hb
    · rename_i hin
      rw [if_pos hin]
      obtain ⟨i, k1, k2⟩ := s1.obj b o hb ho
      exact ⟨i, by rw [← f6 b (t.tlt hj hin)]; exact k1, by rw [← f3]; exact k2⟩
    · rename_i hin
      rw [if_neg hin]
      obtain ⟨i, k1, k2⟩ := x.obj b o hb ho
      refine ⟨i, f5 _ _ k1, k2.mono (Phi.res_mono f5 (Nat.le_refl _)) fun c hi => a3 c (x.dom b i c k1 hi) fun b1 hb1 i1 hi1 hcon => ?_⟩
      obtain ⟨m4, m5⟩ := Phi.res_some hi1
      obtain ⟨o1, m6, m7⟩ := mutl b1 hb1 m4
      have := x.sep b1 b o1 o i1 i c m6 hb m7 ho m5 k1 hcon hi
      subst this; exact hin (List.mem_append_left _ hb1)
  case sep =>
    intro b b' o o' i i' c h1 h2 hm' hne p1 p2 k1 k2
    rw [hvw b] at h1
    rw [hvw b'] at h2
    split at h1 <;> split at h2
    · rename_i e e'
      rw [← f6 b (t.tlt hj e)] at p1
      rw [← f6 b' (t.tlt hj e')] at p2
      exact s1.sep b b' o o' i i' c h1 h2 hm' hne p1 p2 k1 k2
    · rename_i e e'
      exact (X b b' i i' c o' e p1 k1 e' h2 hne (keep b' o' i' h2 hne p2) k2).elim
    · rename_i e e'
      exact (X b' b i' i c o e' p2 k2 e h1 (O.mut_ne hm') (keep b o i h1 (O.mut_ne hm') p1) k1).elim
    · exact x.sep b b' o o' i i' c h1 h2 hm' hne (keep b o i h1 (O.mut_ne hm') p1) (keep b' o' i' h2 hne p2) k1 k2
  case low =>
    intro b o i c hb hm' hi hic
    rw [hvw b] at hb
    split at hb
    · rename_i e
      rw [← f6 b (t.tlt hj e)] at hi
      exact s1.low b o i c hb hm' hi hic
    · exact x.low b o i c hb hm' (keep b o i hb (O.mut_ne hm') hi) hic
  case top => exact Nat.le_trans x.top hwz
  case slots =>
    intro q v hq
    rw [t.sw_add hc hj hD q] at hq ⊢
    unfold okDst at hd
    split at hq
    · rename_i e
      rw [if_pos e]
      cases hq
      rw [e] at hd
      split at hd
      · rename_i e2; cases e2
      · rename_i t' q' e2
        cases e2
        simp only [Bool.and_eq_true] at hd
        obtain ⟨d1, d2⟩ := hd
        rw [Nat.beq_eq] at d1
        have d2 : t' < N := by simpa [Nat.blt_eq] using d2
        have ht : t' < a.tmps.size := Nat.lt_of_lt_of_le d2 x.room
        exact ⟨v', by rw [d1]; simp [Act.put, Array.getElem?_setIfInBounds, ht], by rw [← f3]; exact rv⟩
      · cases hd
    · rename_i e
      rw [if_neg e]
      obtain ⟨u, k1, k2⟩ := x.slots q v hq
      refine ⟨u, ?_, k2.mono (Phi.res_mono f5 (Nat.le_refl _))⟩
      split at hd
      · exact k1
      · rename_i t' q' e2
        simp only [Bool.and_eq_true] at hd
        obtain ⟨d1, d2⟩ := hd
        rw [Nat.beq_eq] at d1
        simp only [Act.put]
        rw [Array.getElem?_setIfInBounds_ne (fun e' => e (by rw [e2, P.nat_inj (show q'.nat = q.nat by omega)]))]
        exact k1
      · cases hd
  case room =>
    cases d with
    | none => exact x.room
    | some d => simpa [Act.put] using x.room
  case defers =>
    cases d with
    | none => exact x.defers
    | some d => simpa [Act.put] using x.defers
  case size => exact Nat.le_trans x.size hwz
  case os => exact e1.os.trans x.os
  case tape => exact e1.tape.trans x.tape
  case output => exact e1.output.trans x.output
  case chg =>
    intro c hc0 hall
    have hs := x.size
    rw [a3 c (by omega) fun b hb i hi hcon => ?_]
    · exact x.chg c hc0 fun i hi hDi => hall i hi (by simp [Tra.add, hDi])
    · obtain ⟨m4, m5⟩ := Phi.res_some hi
      rcases Nat.lt_or_ge b.nat (t.zz 0) with k | k
      · rw [x.old b k] at m5
        exact hall j hj Tra.add_same b hb i m5 hcon
      · rcases x.new b i c k m5 hcon with m | ⟨i1, m1, m2, b0, m3, k0, m6, m7⟩
        · omega
        · exact hall i1 m1 (by simp [Tra.add, m2]) b0 m3 k0 m6 m7
  case new =>
    intro b k c hb hk hkc
    have hs := x.size
    have lift : (w0.heap.size ≤ c ∨ ∃ i, i < n ∧ D i = true ∧ ∃ b0 ∈ t.ll i, ∃ k0, φ0 b0 = some k0 ∧ k0.blk = some c) → (w0.heap.size ≤ c ∨ ∃ i, i < n ∧ Tra.add D j i = true ∧ ∃ b0 ∈ t.ll i, ∃ k0, φ0 b0 = some k0 ∧ k0.blk = some c) := by
      rintro (m | ⟨i, m1, m2, m3⟩)
      · exact .inl m
      · exact .inr ⟨i, m1, by simp [Tra.add, m2], m3⟩
    by_cases h : t.zz j ≤ b.nat ∧ b.nat < t.zz (j + 1)
    · rw [g1 b h.1 h.2] at hk
      rcases a7 b k c (by omega) hk hkc with m | ⟨b0, m1, i0, m2, m3⟩
      · exact .inl (by omega)
      · obtain ⟨m4, m5⟩ := Phi.res_some m2
        rcases Nat.lt_or_ge b0.nat (t.zz 0) with q | q
        · rw [x.old b0 q] at m5
          exact .inr ⟨j, hj, Tra.add_same, b0, m1, i0, m5, m3⟩
        · exact lift (x.new b0 i0 c q m5 m3)
    · rw [g2 b h] at hk
      exact lift (x.new b k c hb hk hkc)
/-- an operation that reads a map of numbers and does not care for new zeros -/
theorem SD.special (x : SD cr B0 N t φ0 w0 ds D φ a w) (hc : Tra.Closed anc n D) (hj : j < n) (hD : D j = false) (hr : ∀ i, i < n → anc i j → D i = true) {K : H} {kd : IntKind} {m : Int}
    (h1 : t.ll j = [] ∧ t.nn j = []) (h2 : t.vv j = .w (.int kd m)) (h3 : K.sz.nat = t.zz n) (h5 : ∀ b o, K.tr.get b = some o → o ≠ .dead → (t.vw D n b).1 = some o) :
    (Sim cr B0 φ K w ∧ RelS φ (mkR (t.ss j) (rI (t.ii j))) a.tmps) ∧
    ∀ {d : Option Tmp}, okDst N d (t.ii j).d = true → ∀ {v' : Value} {w' : World}, Res cr B0 φ K w (t.vv j) K v' w' → SD cr B0 N t φ0 w0 ds (Tra.add D j) φ (a.put d v') w' := by
  have hfr : ∀ b : P, t.zz n ≤ b.nat → φ b = none := fun b hb => by
    by_cases hn : φ b = none
    · exact hn
    · rcases x.fresh b hn with k | ⟨i, k1, k2, k3, k4⟩
      · have := t.zz_le (i := 0) (j := n) (by omega) (Nat.le_refl _); omega
      · have := t.zz_le (i := i + 1) (j := n) (by omega) (Nat.le_refl _); omega
  have htt : t.tt j = [] := by simp [Tra.tt, h1.1, h1.2]
  have hvw : ∀ b, t.vw (Tra.add D j) n b = t.vw D n b := fun b => by rw [t.vw_add hc hj hD b, htt]; simp
  have sm : Sim cr B0 φ K w := by
    refine ⟨fun b hb => ⟨hfr b (by omega), fun o ho => ?_⟩, x.dom, fun b o hb ho => ?_, fun b b' o o' i i' c k1 k2 hm hne p1 p2 q1 q2 => ?_, fun b o i c hb hm hi hc' => ?_, x.top⟩
    · by_cases hd : o = .dead
      · exact hd
      · obtain ⟨i, e1, _⟩ := x.obj b o (h5 b o ho hd) hd
        rw [hfr b (by omega)] at e1; cases e1
    · obtain ⟨i, e1, e2⟩ := x.obj b o (h5 b o hb ho) ho
      exact ⟨i, e1, e2.mono (Phi.res_le _ _) fun _ _ => rfl⟩
    · exact x.sep b b' o o' i i' c (h5 b o k1 (O.mut_ne hm)) (h5 b' o' k2 hne) hm hne p1 p2 q1 q2
    · exact x.low b o i c (h5 b o hb (O.mut_ne hm)) hm hi hc'
  refine ⟨⟨sm, ?_⟩, ?_⟩
  · intro q v hq
    rw [mkR_get] at hq
    split at hq
    · rename_i hin
      obtain ⟨k1, k2⟩ := t.reads hc hj hD hr hin
      obtain ⟨v', e1, e2⟩ := x.slots q v (by rw [k1]; exact hq)
      exact ⟨v', e1, e2.mono (Phi.res_le _ _)⟩
    · cases hq
  · intro d hd v' w' ⟨φ', s1, e1, rv⟩
    rw [h2] at rv
    have rv : v' = .int kd m := rv
    obtain ⟨l, n', a1, a2, a3, a4, a5, a6, a7, a8⟩ := e1.log
    have hl : l = [] := List.self_eq_append_left.1 a1
    subst hl
    have hold : ∀ c, c < w.heap.size → w'.heap[c]? = w.heap[c]? := fun c hc => a3 c hc (by simp)
    have hwz := e1.size
    constructor
    case old => exact x.old
    case fresh =>
      intro b hb
      rcases x.fresh b hb with k | ⟨i, k1, k2, k3⟩
      · exact .inl k
      · exact .inr ⟨i, k1, by simp [Tra.add, k2], k3⟩
    case dom => intro b i c hb hi; have := x.dom b i c hb hi; omega
    case obj =>
      intro b o hb ho
      rw [hvw b] at hb ⊢
      obtain ⟨i, k1, k2⟩ := x.obj b o hb ho
      exact ⟨i, k1, k2.mono (Le.refl _) fun c hi => hold c (x.dom b i c k1 hi)⟩
    case sep => intro b b' o o' i i' c k1 k2; rw [hvw] at k1 k2; exact x.sep b b' o o' i i' c k1 k2
    case low => intro b o i c hb; rw [hvw] at hb; exact x.low b o i c hb
    case top => exact Nat.le_trans x.top hwz
    case slots =>
      intro q v hq
      rw [t.sw_add hc hj hD q] at hq ⊢
      unfold okDst at hd
      split at hq
      · rename_i e
        rw [if_pos e]
        cases hq
        rw [e] at hd
        split at hd
        · rename_i e2; cases e2
        · rename_i t' q' e2
          cases e2
          simp only [Bool.and_eq_true] at hd
          obtain ⟨d1, d2⟩ := hd
          rw [Nat.beq_eq] at d1
          have d2 : t' < N := by simpa [Nat.blt_eq] using d2
          have ht : t' < a.tmps.size := Nat.lt_of_lt_of_le d2 x.room
          exact ⟨v', by rw [d1]; simp [Act.put, Array.getElem?_setIfInBounds, ht], by rw [h2]; exact rv⟩
        · cases hd
      · rename_i e
        rw [if_neg e]
        obtain ⟨u, k1, k2⟩ := x.slots q v hq
        refine ⟨u, ?_, k2⟩
        split at hd
        · exact k1
        · rename_i t' q' e2
          simp only [Bool.and_eq_true] at hd
          obtain ⟨d1, d2⟩ := hd
          rw [Nat.beq_eq] at d1
          simp only [Act.put]
          rw [Array.getElem?_setIfInBounds_ne (fun e' => e (by rw [e2, P.nat_inj (show q'.nat = q.nat by omega)]))]
          exact k1
        · cases hd
    case room =>
      cases d with
      | none => exact x.room
      | some d => simpa [Act.put] using x.room
    case defers =>
      cases d with
      | none => exact x.defers
      | some d => simpa [Act.put] using x.defers
    case size => exact Nat.le_trans x.size hwz
    case os => exact e1.os.trans x.os
    case tape => exact e1.tape.trans x.tape
    case output => exact e1.output.trans x.output
    case chg =>
      intro c hc0 hall
      have hs := x.size
      rw [hold c (by omega)]
      exact x.chg c hc0 fun i hi hDi => hall i hi (by simp [Tra.add, hDi])
    case new =>
      intro b k c hb hk hkc
      rcases x.new b k c hb hk hkc with m | ⟨i, m1, m2, m3⟩
      · exact .inl m
      · exact .inr ⟨i, m1, by simp [Tra.add, m2], m3⟩
theorem SD.congr {D' : Nat → Bool} (h : ∀ i, i < n → D i = D' i) (x : SD cr B0 N t φ0 w0 ds D φ a w) : SD cr B0 N t φ0 w0 ds D' φ a w := by
  have hv : ∀ b, t.vw D' n b = t.vw D n b := fun b => (t.vw_same fun i hi _ => h i hi).symm
  have hs : ∀ b, t.sw D' n b = t.sw D n b := fun b => (t.sw_same fun i hi _ => h i hi).symm
  exact { x with
    fresh := fun b hb => (x.fresh b hb).imp id fun ⟨i, k1, k2, k3⟩ => ⟨i, k1, by rw [← h i k1]; exact k2, k3⟩
    obj := fun b o hb ho => by rw [hv] at hb ⊢; exact x.obj b o hb ho
    sep := fun b b' o o' i i' c h1 h2 => by rw [hv] at h1 h2; exact x.sep b b' o o' i i' c h1 h2
    low := fun b o i c hb => by rw [hv] at hb; exact x.low b o i c hb
    slots := fun q v hq => by rw [hs] at hq ⊢; exact x.slots q v hq
    chg := fun c hc hall => x.chg c hc fun i hi hD => hall i hi (by rw [← h i hi]; exact hD)
    new := fun b k c hb hk hkc => (x.new b k c hb hk hkc).imp id fun ⟨i, k1, k2, k3⟩ => ⟨i, k1, by rw [← h i k1]; exact k2, k3⟩ }
theorem SD.start (sim : Sim cr B0 φ0 h0 w0) (hs : RelS φ0 (t.ss 0) a.tmps) (hN : N ≤ a.tmps.size) (hD : ∀ i, i < n → D i = false) : SD cr B0 N t φ0 w0 a.defers D φ0 a w0 := by
  have e1 : φ0.res (t.zz 0) = φ0 := by
    funext b
    rcases Nat.lt_or_ge b.nat (t.zz 0) with k | k
    · rw [Phi.res_lt k]
    · rw [Phi.res_ge k, (sim.fresh b (by rw [← t.zero]; exact k)).1]
  have hv : ∀ b, t.vw D n b = (h0.tr.get b, t.zz 0) := fun b => t.vw_skip (Nat.zero_le _) fun i _ hi k => by rw [hD i hi] at k; cases k.1
  have hw : ∀ b, t.sw D n b = ((t.ss 0).get b, t.zz 0) := fun b => t.sw_skip (Nat.zero_le _) fun i _ hi k => by rw [hD i hi] at k; cases k.1
  refine { old := fun _ _ => rfl, fresh := ?_, dom := sim.dom, obj := ?_, sep := ?_, low := ?_, top := sim.top, slots := ?_, room := hN, defers := rfl, size := Nat.le_refl _, os := rfl, tape := rfl, output := rfl, chg := fun _ _ _ => rfl, new := ?_ }
  · intro b hb
    rcases Nat.lt_or_ge b.nat (t.zz 0) with k | k
    · exact .inl k
    · exact absurd (sim.fresh b (by rw [← t.zero]; exact k)).1 hb
  · intro b o hb ho
    rw [hv] at hb ⊢
    rw [e1]
    exact sim.obj b o hb ho
  · intro b b' o o' i i' c h1 h2
    rw [hv] at h1 h2
    exact sim.sep b b' o o' i i' c h1 h2
  · intro b o i c hb
    rw [hv] at hb
    exact sim.low b o i c hb
  · intro q v hq
    rw [hw] at hq ⊢
    rw [e1]
    exact hs q v hq
  · intro b k c hb hk
    rw [(sim.fresh b (by rw [← t.zero]; exact hb)).1] at hk; cases hk
/-- all is done -/
theorem SD.done (x : SD cr B0 N t φ0 w0 ds Go.Am.all φ a w) (sim : Sim cr B0 φ0 h0 w0) {h' : H} {L NN : List P} (hz : h'.sz.nat = t.zz n) (hg : ∀ b, h'.tr.get b = (t.vw Go.Am.all n b).1) (hl : h'.log = L ++ h0.log) (hn : h'.nw = NN ++ h0.nw)
    (hL : ∀ b, b ∈ L ↔ ∃ j, j < n ∧ b ∈ t.ll j) (hNN : ∀ b, b ∈ NN ↔ ∃ j, j < n ∧ b ∈ t.nn j) : Sim cr B0 φ h' w ∧ Ext φ0 h0 w0 φ h' w ∧ RelS φ (t.ss n) a.tmps := by
  have hle := t.zz_le (i := 0) (j := n) (by omega) (Nat.le_refl _)
  have hz0 := t.zero
  refine ⟨⟨fun b hb => ⟨?_, fun o ho => ?_⟩, x.dom, fun b o hb ho => ?_, fun b b' o o' i i' c h1 h2 => ?_, fun b o i c hb => ?_, x.top⟩, ⟨fun b hb => x.old b (by omega), by omega, x.size, x.os, x.tape, x.output, L, NN, hl, hn, ?_, ?_, ?_, ?_, ?_, ?_⟩, ?_⟩
  · by_cases hnn : φ b = none
    · exact hnn
    · rcases x.fresh b hnn with k | ⟨i, k1, k2, k3, k4⟩
      · omega
      · have := t.zz_le (i := i + 1) (j := n) (by omega) (Nat.le_refl _); omega
  · by_cases hd : o = .dead
    · exact hd
    · rw [hg b] at ho
      have := t.vlt (Nat.le_refl n) ho hd
      omega
  · rw [hg b] at hb
    obtain ⟨i, k1, k2⟩ := x.obj b o hb ho
    exact ⟨i, k1, k2.mono (Phi.res_le _ _) fun _ _ => rfl⟩
  · rw [hg] at h1 h2
    exact x.sep b b' o o' i i' c h1 h2
  · rw [hg] at hb
    exact x.low b o i c hb
  · intro c hc hall
    exact x.chg c hc fun i hi _ b hb k hk => hall b ((hL b).2 ⟨i, hi, hb⟩) k hk
  · intro b hb hnl
    rw [hg b, t.vw_skip (Nat.zero_le n) fun i _ hi k => ?_, t.vw_zero]
    rcases List.mem_append.1 k.2 with m | m
    · exact hnl ((hL b).2 ⟨i, hi, m⟩)
    · have := (t.nrng i hi b m).1
      have := t.zz_le (i := 0) (j := i) (by omega) (by omega)
      omega
  · intro b h1 h2
    rw [hNN b]
    have key : ∀ m, m ≤ n → b.nat < t.zz m → ∃ j, j < n ∧ b ∈ t.nn j := by
      intro m
      induction m with
      | zero => intro _ k; omega
      | succ m ih =>
        intro hm k
        rcases Nat.lt_or_ge b.nat (t.zz m) with q | q
        · exact ih (by omega) q
        · exact ⟨m, by omega, t.nall m (by omega) b q k⟩
    exact key n (Nat.le_refl _) (by omega)
  · intro b hb
    obtain ⟨i, k1, k2⟩ := (hNN b).1 hb
    have := t.nrng i k1 b k2
    have := t.zz_le (i := 0) (j := i) (by omega) (by omega)
    have := t.zz_le (i := i + 1) (j := n) (by omega) (Nat.le_refl _)
    omega
  · intro b k c hb hk hkc
    rcases x.new b k c (by omega) hk hkc with m | ⟨i, m1, m2, b0, m3, m4⟩
    · exact .inl m
    · exact .inr ⟨b0, (hL b0).2 ⟨i, m1, m3⟩, m4⟩
  · intro b hb
    obtain ⟨i, k1, k2⟩ := (hL b).1 hb
    have h1 := t.tlt k1 (List.mem_append_left _ k2 : b ∈ t.tt i)
    have h2 := t.zz_le (i := i + 1) (j := n) (by omega) (Nat.le_refl _)
    refine ⟨by omega, fun hlt => ?_⟩
    have key : ∀ i, i < n → b ∈ t.ll i → ∃ o, h0.tr.get b = some o ∧ o.mut = true := by
      intro i
      induction i using Nat.strongRecOn with
      | _ i ih =>
        intro hi hb
        rcases t.lold i hi b hb with m | ⟨o, m1, m2⟩
        · have := (t.nrng i hi b m).1
          have := t.zz_le (i := 0) (j := i) (by omega) (by omega)
          omega
        · by_cases hx : ∃ i', i' < i ∧ b ∈ t.ll i'
          · obtain ⟨i', q1, q2⟩ := hx
            exact ih i' q1 (by omega) q2
          · have e := t.view' hi m1 (O.mut_ne m2)
            rw [t.vw_skip (Nat.zero_le i) fun i' _ hi' k => ?_, t.vw_zero] at e
            · exact ⟨o, e, m2⟩
            · rcases List.mem_append.1 k.2 with q | q
              · exact hx ⟨i', hi', q⟩
              · have := (t.nrng i' (by omega) b q).1
                have := t.zz_le (i := 0) (j := i') (by omega) (by omega)
                omega
    exact key i k1 k2
  · intro q v hq
    obtain ⟨v', k1, k2⟩ := x.slots q v (by rw [t.sw_all]; exact hq)
    exact ⟨v', k1, k2.mono (Phi.res_le _ _)⟩
end

/-! any order -/
theorem countP_lt {l : List Nat} {p q : Nat → Bool} {i : Nat} (hi : i ∈ l) (hp : p i = true) (hq : q i = false) (h : ∀ x, q x = true → p x = true) : l.countP q < l.countP p := by
  induction l with
  | nil => cases hi
  | cons x l ih =>
    have hle : l.countP q ≤ l.countP p := List.countP_mono_left fun y _ => h y
    rcases List.mem_cons.1 hi with rfl | hi
    · rw [List.countP_cons, List.countP_cons, hp, hq]; simp; omega
    · have := ih hi
      rw [List.countP_cons, List.countP_cons]
      have hx := h x
      cases h1 : q x
      · simp; omega
      · rw [hx h1]; simp; omega
section
variable {cr : CR} {B0 N : Nat} {cl : Call} {n : Nat} {h0 : H} {anc : Nat → Nat → Prop} {t : Tra cl n h0 anc} {φ0 : Phi} {w0 : World} {ds : List Deferred} {p : Program} {F : Fence} {fn : Nat} {ops : Array Oper}
theorem any_sound (hF : Wide F) (hcl : CallSound cr p cl) (hsz : ops.size = n) (hok : ∀ j o, ops[j]? = some o → okI p N ops o (t.ii j) = true)
    (hed : ∀ j o, ops[j]? = some o → ∀ e ∈ o.after, Region.binds .any e = true → e.on < j) (hanc : ∀ i j o, ops[j]? = some o → anc i j → ∃ e ∈ o.after, Region.binds .any e = true ∧ (e.on = i ∨ anc i e.on))
    {Q : Exit → Act → World → Prop} (hQ : ∀ φ a w, SD cr B0 N t φ0 w0 ds Go.Am.all φ a w → Q .normal a w) :
    ∀ (fuel : Nat) (listed : Array Bool) (a : Act) (w : World) (φ : Phi), listed.size = n → (∀ j o, ops[j]? = some o → listed.getD j false = true → ∀ e ∈ o.after, Region.binds .any e = true → listed.getD e.on false = true) →
      (List.range n).countP (fun j => !listed.getD j false) ≤ fuel → SD cr B0 N t φ0 w0 ds (fun j => listed.getD j false) φ a w → wpAnyIn F fn p .any ops Q fuel listed a w := by
  have at_ : ∀ j, j < n → ∃ o, ops[j]? = some o := fun j hj => ⟨ops[j], by simp [hsz, hj]⟩
  have closed : ∀ (listed : Array Bool), (∀ j o, ops[j]? = some o → listed.getD j false = true → ∀ e ∈ o.after, Region.binds .any e = true → listed.getD e.on false = true) →
      ∀ j i, j < n → anc i j → (∀ o, ops[j]? = some o → ∀ e ∈ o.after, Region.binds .any e = true → listed.getD e.on false = true) → listed.getD i false = true := by
    intro listed hl j
    induction j using Nat.strongRecOn with
    | _ j ih =>
      intro i hj ha hr
      obtain ⟨o, ho⟩ := at_ j hj
      obtain ⟨e, he, hb, hx⟩ := hanc i j o ho ha
      have h1 := hr o ho e he hb
      rcases hx with rfl | hx
      · exact h1
      · have hlt := hed j o ho e he hb
        exact ih e.on hlt i (by omega) hx fun o' ho' => hl e.on o' ho' h1
  have fin : ∀ (listed : Array Bool) (a : Act) (w : World) (φ : Phi), listed.size = n → SD cr B0 N t φ0 w0 ds (fun j => listed.getD j false) φ a w → Region.ready .any ops listed = [] → Q .normal a w := by
    intro listed a w φ hls x hr
    refine hQ φ a w (x.congr fun i hi => ?_)
    have : ∀ i, i < n → listed.getD i false = true := by
      intro i
      induction i using Nat.strongRecOn with
      | _ i ih =>
        intro hi
        by_cases hx : listed.getD i false = true
        · exact hx
        · obtain ⟨o, ho⟩ := at_ i hi
          have hx : listed.getD i false = false := by simpa using hx
          have hx' : listed.getD i true = false := by
            have hlt : i < listed.size := by omega
            simp only [Array.getD, dif_pos hlt] at hx ⊢; exact hx
          have : i ∈ Region.ready .any ops listed := mem_ready.2 ⟨hx', o, ho, fun e he hb => ih e.on (hed i o ho e he hb) (by have := hed i o ho e he hb; omega)⟩
          rw [hr] at this; cases this
    exact this i hi
  intro fuel
  induction fuel with
  | zero =>
    intro listed a w φ hls hl hf x
    have hr : Region.ready .any ops listed = [] := by
      cases hr : Region.ready .any ops listed with
      | nil => rfl
      | cons i rs =>
        have hi : i ∈ Region.ready .any ops listed := by rw [hr]; simp
        obtain ⟨h1, o, h2, h3⟩ := mem_ready.1 hi
        have hin : i < n := by rw [← hsz]; exact (Array.getElem?_eq_some_iff.1 h2).1
        have h0 : (List.range n).countP (fun j => !listed.getD j false) = 0 := by omega
        rw [List.countP_eq_zero] at h0
        have := h0 i (by simpa using hin)
        have hlt : i < listed.size := by omega
        simp only [Array.getD, dif_pos hlt] at h1 this
        rw [h1] at this; simp at this
    exact ⟨hr, fin listed a w φ hls x hr⟩
  | succ fuel ih =>
    intro listed a w φ hls hl hf x
    refine ⟨fin listed a w φ hls x, fun j hj => ?_⟩
    obtain ⟨h1, o, h2, h3⟩ := mem_ready.1 hj
    have hjn : j < n := by rw [← hsz]; exact (Array.getElem?_eq_some_iff.1 h2).1
    have hjl : j < listed.size := by omega
    have hD : listed.getD j false = false := by simp only [Array.getD, dif_pos hjl] at h1 ⊢; exact h1
    have hc : Tra.Closed anc n (fun j => listed.getD j false) := ⟨fun i k hi hk ha hd => closed listed hl k i hk ha fun o' ho' => hl k o' ho' hd⟩
    have hr : ∀ i, i < n → anc i j → listed.getD i false = true := fun i hi ha => closed listed hl j i hjn ha fun o' ho' e he hb => by
      rw [h2] at ho'; cases ho'; exact h3 e he hb
    have hoki := hok j o h2
    have hset : ∀ i, (listed.setIfInBounds j true).getD i false = Tra.add (fun j => listed.getD j false) j i := by
      intro i
      by_cases e : i = j
      · subst e
        rw [Tra.add_same]
        simp [Array.getD, hjl]
      · rw [Tra.add_ne e]
        have hg : ∀ (l : Array Bool), l.getD i false = (l[i]?).getD false := fun l => by
          unfold Array.getD
          split
          · rename_i hi; simp [hi]
          · rename_i hi; simp [Array.getElem?_eq_none (Nat.le_of_not_lt hi)]
        rw [hg, hg, Array.getElem?_setIfInBounds_ne (Ne.symm e)]
    unfold wpOpIn
    simp only [h2]
    have hdst : okDst N o.dst (t.ii j).d = true := by
      simp only [okI, Bool.and_eq_true] at hoki; exact hoki.1.1
    have fin2 : ∀ (v' : Value) (w' : World) (φ2 : Phi), SD cr B0 N t φ0 w0 ds (Tra.add (fun j => listed.getD j false) j) φ2 (a.put o.dst v') w' → wpAnyIn F fn p .any ops Q fuel (listed.setIfInBounds j true) (a.put o.dst v') w' := by
      intro v' w' φ2 x2
      refine ih (listed.setIfInBounds j true) (a.put o.dst v') w' φ2 (by simpa using hls) ?_ ?_ (x2.congr fun i _ => (hset i).symm)
      · intro k o' ho' hk e he hb
        rw [hset] at hk ⊢
        by_cases ek : k = j
        · subst ek
          rw [h2] at ho'; cases ho'
          simp [Tra.add, h3 e he hb]
        · rw [Tra.add_ne ek] at hk
          simp [Tra.add, hl k o' ho' hk e he hb]
      · have hlt : (List.range n).countP (fun k => !(listed.setIfInBounds j true).getD k false) < (List.range n).countP (fun k => !listed.getD k false) := by
          refine countP_lt (i := j) (by simpa using hjn) (by simp [hD]) (by rw [hset, Tra.add_same]; rfl) fun k hk => ?_
          rw [hset] at hk
          simp only [Tra.add, Bool.not_or, Bool.and_eq_true] at hk
          exact hk.1
        omega
    cases hsp : t.sp j with
    | false =>
      obtain ⟨sm, rs⟩ := x.sim hc hjn hD hr
      have hrun := t.run j hjn hsp
      rw [insV_ag (t := mkR (t.ss j) (rI (t.ii j))) (fun q hq => by rw [mkR_get, if_pos hq])] at hrun
      refine insV_sound hF hcl hoki rs sm hrun fun v' w' res => ?_
      obtain ⟨φ2, x2⟩ := x.next hc hjn hD hr hdst res
      exact fin2 v' w' φ2 x2
    | true =>
      obtain ⟨K, kd, m, e1, e2, e3, e4⟩ := t.spv j hjn hsp _ hc.down hD hr
      obtain ⟨⟨sm, rs⟩, nx⟩ := x.special hc hjn hD hr (t.spl j hjn hsp) e1 e2 e4
      rw [insV_ag (t := mkR (t.ss j) (rI (t.ii j))) (fun q hq => by rw [mkR_get, if_pos hq])] at e3
      exact insV_sound hF hcl hoki rs sm e3 fun v' w' res => fin2 v' w' φ (nx hdst res)
end
end Go.Am
