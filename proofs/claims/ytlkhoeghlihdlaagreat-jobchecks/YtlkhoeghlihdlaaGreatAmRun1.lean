import Derived.Test.YtlkhoeghlihdlaaGreatAmOp12
import Derived.RangeFuncCalls
import Derived.OrdersIn
namespace Go.Am
set_option autoImplicit false
set_option linter.unusedSimpArgs false
set_option linter.unusedVariables false

/-- the fences of the walk: the wide one, and the wide one in a round -/
def Wide (F : Fence) : Prop := F = Fence.wide ∨ ∃ l, F = Fence.wide.inRound l
theorem Wide.fn {F : Fence} (h : Wide F) (f : FuncId) : F.fn f := by rcases h with rfl | ⟨l, rfl⟩ <;> trivial
theorem Wide.depth {F : Fence} (h : Wide F) : F.depth = none := by rcases h with rfl | ⟨l, rfl⟩ <;> rfl
theorem Wide.calls {F : Fence} (h : Wide F) {n : Nat} {p : Program} {f : FuncId} {args : Array Value} {w : World} {R : Ending → World → Prop} (k : CallsIn Fence.wide 0 p f args w R) : CallsIn F n p f args w R := by
  rcases h with rfl | ⟨l, rfl⟩
  · exact ⟨trivial, fun cs _ => k.2 cs (room_wide _)⟩
  · exact CallsIn.inRound l ⟨trivial, fun cs _ => k.2 cs (room_wide _)⟩
theorem Wide.round {F : Fence} (h : Wide F) {n l : Nat} {p : Program} {f : FuncId} {tmps : Array Value} {asg body : Code} {w : World} {R : Ending → World → Prop} (k : RoundIn Fence.wide 0 p l f tmps asg body w R) : RoundIn F n p l f tmps asg body w R := by
  rcases h with rfl | ⟨l, rfl⟩
  · exact ⟨trivial, fun c cs _ => k.2 c cs (room_wide _)⟩
  · exact ⟨trivial, fun c cs _ => k.2 c cs (room_wide _)⟩

/-- what a call of a value does -/
def CallOk (p : Program) (fv : Value) (args : Array Value) (w : World) (R : Value → World → Prop) : Prop :=
  (∃ f fs caps fn, fv = .func (.func f) fs caps ∧ p.funcs[f]? = some fn ∧ fn.body.isNone = false ∧ (fn.name == "runtime.NumGoroutine") = false ∧
    CallsIn Fence.wide 0 p f (fs ++ args ++ caps) w (fun e w' => ∃ v, e = .returned v ∧ R v w')) ∨
  (∃ l r, fv = .func (.yield l) #[] #[] ∧ w.heap[l]? = some (.loop r) ∧ args.size = r.params.size ∧
    RoundIn Fence.wide 0 p l r.fn ((r.params.zip args).foldl (fun tmps (t, a) => tmps.setIfInBounds t a) r.tmps) r.assign r.body w (fun e w' => ∃ v, e = .returned v ∧ R v w'))
def CallSound (cr : CR) (p : Program) (cl : Call) : Prop :=
  ∀ (B0 : Nat) (φ : Phi) (h : H) (w : World) (f : V) (fv : Value) (args : List V) (vals : List Value) (v : V) (h' : H),
    cl f args h = some (v, h') → RelV φ f fv → RelL (RelV φ) args vals → Sim cr B0 φ h w → CallOk p fv vals.toArray w (Res cr B0 φ h w v h')

def okDst (N : Nat) (d : Option Tmp) (q : Option P) : Bool := match d, q with | none, none => true | some t, some q => Nat.beq q.nat t && Nat.blt t N | _, _ => false
def okGuard (ops : Array Oper) (g : Option (Nat × Bool)) (q : Option (P × Bool)) : Bool :=
  match g, q with
  | none, none => true
  | some (j, b), some (q, b') => (b == b') && (match ops[j]? with | some oj => decide (oj.dst = some q.nat) | none => false)
  | _, _ => false
def okAct (p : Program) (op : Op) (x : A) : Bool :=
  match x with
  | .call f xs => (match op with | .call ⟨.value g, ⟨ys⟩, _⟩ => okO g f && okOL ys xs | _ => false)
  | x => okA p op x
def okI (p : Program) (N : Nat) (ops : Array Oper) (o : Oper) (i : I) : Bool := okDst N o.dst i.d && okGuard ops o.guard i.g && okAct p o.op i.a
def okIs (p : Program) (N : Nat) (ops : Array Oper) : List Oper → List I → Bool
  | [], [] => true
  | o :: os, i :: is => okI p N ops o i && okIs p N ops os is
  | _, _ => false

section
variable {cr : CR} {B0 : Nat} {φ : Phi} {h h' : H} {w : World} {p : Program} {o : Oper} {s s' : S} {a : Act} {v : V} {F : Fence} {n N : Nat} {ops : Array Oper} {cl : Call}

theorem not_defer {x : A} (hk : okAct p o.op x = true) : ∀ c, o.op ≠ .defer c := by
  intro c e
  rw [e] at hk
  cases x <;> simp only [okAct, okA, Bool.false_eq_true] at hk
  rename_i b
  cases b <;> simp [okB] at hk
theorem act_sound (hF : Wide F) (hcl : CallSound cr p cl) {x : A} (hk : okAct p o.op x = true) (hs : RelS φ s a.tmps) (sim : Sim cr B0 φ h w) (hx : act cl s h x = some (v, h'))
    {next : Act → World → Prop} {Q : Exit → Act → World → Prop} (k : ∀ v' w', Res cr B0 φ h w v h' v' w' → next (a.put o.dst v') w') : o.wpIn F n p a w next Q := by
  refine ⟨fun f _ => hF.fn f, ?_⟩
  rw [Oper.semAt_eq _ _ _ (not_defer hk)]
  by_cases hc : ∃ f xs, x = .call f xs
  · obtain ⟨f, xs, rfl⟩ := hc
    simp only [okAct] at hk
    split at hk
    · rename_i g ys ts e
      simp only [Bool.and_eq_true] at hk
      obtain ⟨fv, g1, g2⟩ := bnd_eq.1 (show bnd (opd s f) (fun f => bnd (opds s xs) (fun vs => cl f vs h)) = some (v, h') from hx)
      obtain ⟨vs, g3, g4⟩ := bnd_eq.1 g2
      have r1 := okO_rel hs hk.1 g1
      have r2 := opds_rel hs hk.2 g3
      rcases hcl B0 φ h w fv (a.eval g) vs (ys.map a.eval) v h' g4 r1 r2 sim with ⟨f, fs, caps, fn, e1, e2, e3, e4, e5⟩ | ⟨l, r, e1, e2, e3, e4⟩
      · have hrun : (execOp a.eval o).run p w = .ok (.enter f (fs ++ (ys.map a.eval).toArray ++ caps)) w := by
          have e3' : fn.body ≠ none := by intro e; rw [e] at e3; cases e3
          have e4' : fn.name ≠ "runtime.NumGoroutine" := by intro e; rw [e] at e4; simp at e4
          simp [execOp, e, resolve, e1, Deferred.ofValue, invoke, callFunc, e2, e3', e4']
        rw [hrun, Oper.uponIn_enter]
        refine ⟨(fun hd => by rw [hF.depth] at hd; cases hd), hF.calls (e5.mono ?_)⟩
        rintro e w' ⟨u, rfl, hu⟩
        exact k u w' hu
      · have hrun : (execOp a.eval o).run p w = .ok (.round l r.fn ((r.params.zip (ys.map a.eval).toArray).foldl (fun tmps (t, a) => tmps.setIfInBounds t a) r.tmps) r.assign r.body) w := by
          have := run_yield (P := p) (args := (ys.map a.eval).toArray) e2 e3
          simp only [execOp, e, resolve, e1, Deferred.ofValue, Sem.run_bind, Sem.run_pure, Result.andThen_ok, invoke, List.map_toArray, Array.empty_append, this]
        rw [hrun, Oper.uponIn_round]
        refine ⟨(fun hd => by rw [hF.depth] at hd; cases hd), hF.round (e4.mono ?_)⟩
        rintro e w' ⟨u, rfl, hu⟩
        exact k u w' hu
    · cases hk
  · have hk' : okA p o.op x = true := by
      cases x <;> first | exact hk | exact absurd ⟨_, _, rfl⟩ hc
    obtain ⟨u, w', hr, hres⟩ := op_a (cl := cl) hk' hs sim hx
    rcases hr with hr | ⟨hr, rfl⟩
    · rw [hr]; exact k u w' hres
    · rw [hr]; exact k _ w' hres

/-- the slots after an operation -/
theorem rel_put {N : Nat} {d : Option Tmp} {q : Option P} {tmps : Array Value} (hd : okDst N d q = true) (hN : N ≤ a.tmps.size) (hs : RelS φ s a.tmps) {v' : Value} (hv : RelV φ v v') (hx : setD s h q v = some (s', h')) :
    RelS φ s' (a.put d v').tmps ∧ h' = h ∧ N ≤ (a.put d v').tmps.size ∧ (a.put d v').defers = a.defers := by
  unfold okDst at hd
  split at hd
  · cases hx; exact ⟨hs, rfl, hN, rfl⟩
  · rename_i t q
    simp only [Bool.and_eq_true] at hd
    obtain ⟨h1, h2⟩ := hd
    rw [Nat.beq_eq] at h1
    have h2 : t < N := by simpa [Nat.blt_eq] using h2
    change bnd (s.set (some v) q) (fun s => some (s, h)) = some (s', h') at hx
    rw [Tr.set_eq] at hx
    cases hx
    refine ⟨fun r u hr => ?_, rfl, by simpa [Act.put] using hN, rfl⟩
    rw [Tr.get_put] at hr
    simp only [Act.put]
    split at hr
    · rename_i e
      subst e
      cases hr
      have ht : t < a.tmps.size := Nat.lt_of_lt_of_le h2 hN
      exact ⟨v', by rw [h1]; simp [Array.getElem?_setIfInBounds, ht], hv⟩
    · rename_i e
      obtain ⟨u', k1, k2⟩ := hs r u hr
      exact ⟨u', by rw [Array.getElem?_setIfInBounds_ne (fun e' => e (P.nat_inj (by rw [h1, e'])))]; exact k1, k2⟩
  · cases hd
theorem guard_sound {g : Option (Nat × Bool)} {q : Option (P × Bool)} (hg : okGuard ops g q = true) (hs : RelS φ s a.tmps) (ho : o.guard = g) {b : Bool} (hw : wanted s q = some b) : Region.wanted o (yielded ops a.tmps) = b := by
  unfold okGuard at hg
  split at hg
  · cases hw; simp [Region.wanted, ho]
  · rename_i j b1 q b2
    simp only [Bool.and_eq_true] at hg
    obtain ⟨h1, h2⟩ := hg
    have h1 := eq_of_beq h1
    subst h1
    split at h2
    · rename_i oj hj
      have h2 := of_decide_eq_true h2
      obtain ⟨v, k1, k2⟩ := bnd_eq.1 (show bnd (s.get q) (fun v => boolK (V.rec (motive := fun _ => Bool) (isB b1) (fun _ => false) (fun _ => false) v) some) = some b from hw)
      rw [boolK_eq] at k2
      obtain ⟨v', k3, k4⟩ := hs q v k1
      simp only [Region.wanted, ho, yielded, hj, Option.bind_some, h2, k3]
      cases k2
      cases v with
      | w x =>
        cases x <;> simp only [RelV, RelW] at k4
        case ptr => obtain ⟨_, _, _, _, rfl⟩ := k4; rfl
        case sl => obtain ⟨_, _, _, _, _, _, rfl, _⟩ := k4; rfl
        case map => obtain ⟨_, _, rfl⟩ := k4; rfl
        case fn => obtain ⟨_, _, _, rfl⟩ := k4; rfl
        case yld => obtain ⟨_, _, rfl⟩ := k4; rfl
        case it => obtain ⟨_, _, rfl⟩ := k4; rfl
        case bool c => subst k4; cases b1 <;> cases c <;> rfl
        all_goals subst k4; rfl
      | a cs => obtain ⟨_, rfl, _⟩ := k4; rfl
      | t us => obtain ⟨_, rfl, _⟩ := k4; rfl
    · cases h2
  · cases hg
/-- one operation of a region, guard and all -/
theorem ins_sound (hF : Wide F) (hcl : CallSound cr p cl) {i : I} (hk : okI p N ops o i = true) (hN : N ≤ a.tmps.size) (hs : RelS φ s a.tmps) (sim : Sim cr B0 φ h w) (hx : ins cl s h i = some (s', h'))
    {next : Act → World → Prop} {Q : Exit → Act → World → Prop}
    (k : ∀ a' w' φ', Sim cr B0 φ' h' w' → Ext φ h w φ' h' w' → RelS φ' s' a'.tmps → N ≤ a'.tmps.size → a'.defers = a.defers → next a' w') :
    if Region.wanted o (yielded ops a.tmps) then o.wpIn F n p a w next Q else (∀ f, o.about p w a.eval = some f → F.fn f) ∧ next (a.put o.dst undef) w := by
  simp only [okI, Bool.and_eq_true] at hk
  obtain ⟨⟨h1, h2⟩, h3⟩ := hk
  obtain ⟨d, x, g⟩ := i
  obtain ⟨b, k1, k2⟩ := bnd_eq.1 (show bnd (wanted s g) (fun b => Bool.rec (motive := fun _ => SH) (setD s h d (.t [])) (insA cl s h d x) b) = some (s', h') from hx)
  rw [guard_sound h2 hs rfl k1]
  cases b with
  | false =>
    rw [if_neg (by simp)]
    obtain ⟨r1, rfl, r2, r3⟩ := rel_put (tmps := a.tmps) h1 hN hs (v := .t []) (v' := undef) ⟨#[], rfl, trivial⟩ k2
    exact ⟨fun f _ => hF.fn f, k _ w φ sim (Ext.refl sim) r1 r2 r3⟩
  | true =>
    rw [if_pos rfl]
    obtain ⟨v, h1', k3, k4⟩ := bnd2_eq.1 (show bnd2 (act cl s h x) (fun v h => setD s h d v) = some (s', h') from k2)
    refine act_sound hF hcl h3 hs sim k3 fun v' w' ⟨φ', s1, e1, r1⟩ => ?_
    obtain ⟨q1, rfl, q2, q3⟩ := rel_put (tmps := a.tmps) h1 hN (hs.mono (e1.le sim)) r1 k4
    exact k _ w' φ' s1 e1 q1 q2 q3
theorem okIs_cons {os : List Oper} {i : I} {is : List I} (hk : okIs p N ops os (i :: is) = true) : ∃ o os', os = o :: os' ∧ okI p N ops o i = true ∧ okIs p N ops os' is = true := by
  cases os with
  | nil => cases hk
  | cons o os => simp only [okIs, Bool.and_eq_true] at hk; exact ⟨o, os, rfl, hk⟩
/-- the operations of a region in their order -/
theorem insL_sound (hF : Wide F) (hcl : CallSound cr p cl) {Q : Exit → Act → World → Prop} : ∀ {l : List I} {os : List Oper} {j : Nat} {φ : Phi} {h h' : H} {w : World} {s s' : S} {a : Act}, okIs p N ops os l = true → ops.toList.drop j = os →
    N ≤ a.tmps.size → RelS φ s a.tmps → Sim cr B0 φ h w → insL cl l s h = some (s', h') →
    (∀ a' w' φ', Sim cr B0 φ' h' w' → Ext φ h w φ' h' w' → RelS φ' s' a'.tmps → N ≤ a'.tmps.size → a'.defers = a.defers → Q .normal a' w') →
    wpOpsIn F n p ops Q (List.range' j l.length) a w
  | [], os, j, φ, h, h', w, s, s', a, hk, hj, hN, hs, sim, hx, k => by
    cases hx
    exact k a w φ sim (Ext.refl sim) hs hN rfl
  | i :: is, os, j, φ, h, h', w, s, s', a, hk, hj, hN, hs, sim, hx, k => by
    obtain ⟨o, os', rfl, h1, h2⟩ := okIs_cons hk
    obtain ⟨s1, hh1, k1, k2⟩ := bnd2_eq.1 (show bnd2 (ins cl s h i) (insL cl is) = some (s', h') from hx)
    have hoj : ops[j]? = some o := by
      have : (ops.toList.drop j)[0]? = some o := by rw [hj]; rfl
      rw [List.getElem?_drop, Nat.add_zero, Array.getElem?_toList] at this
      exact this
    have hj' : ops.toList.drop (j + 1) = os' := by rw [← List.drop_drop, hj]; rfl
    rw [List.length_cons, List.range'_succ, wpOpsIn_cons]
    unfold wpOpIn
    simp only [hoj]
    refine ins_sound hF hcl h1 hN hs sim k1 fun a' w' φ' s1 e1 r1 n1 d1 => ?_
    refine insL_sound hF hcl h2 hj' n1 r1 s1 k2 fun a2 w2 φ2 s2 e2 r2 n2 d2 => ?_
    exact k a2 w2 φ2 s2 (e1.trans e2) r2 n2 (d2.trans d1)
end
end Go.Am
namespace Go.Am
set_option autoImplicit false
set_option linter.unusedSimpArgs false
set_option linter.unusedVariables false

/-! what an operation reads of the slots -/
def rO (x : Opd) : List P := match x with | .t p => [p] | .c _ => []
def rL (xs : List Opd) : List P := match xs with | [] => [] | x :: xs => rO x ++ rL xs
def rOO (x : Option Opd) : List P := match x with | some x => rO x | none => []
def rPs (ps : List (Nat × Nat × Opd)) : List P := match ps with | [] => [] | x :: ps => rO x.2.2 ++ rPs ps
def rB (b : B) : List P :=
  match b with
  | .eqb _ x y => rO x ++ rO y
  | .eqs _ _ x y => rO x ++ rO y
  | .eqn _ _ x y => rO x ++ rO y
  | .cvi _ x => rO x
  | .mkf _ xs ys => rL xs ++ rL ys
  | .mkm => []
  | .mks _ _ _ _ x y => rO x ++ rO y
  | .fld _ _ x => rO x
  | .idv _ _ _ x y => rO x ++ rO y
  | .ids x y => rO x ++ rO y
  | .iada _ _ x y => rO x ++ rO y
  | .lkp _ _ _ x y => rO x ++ rO y
  | .mup _ x y z => rO x ++ (rO y ++ rO z)
  | .men _ _ x y => rO x ++ rO y
  | .est x y z => rO x ++ (rO y ++ rO z)
  | .del _ x y => rO x ++ rO y
  | .cpy _ x y => rO x ++ rO y
  | .clr _ _ x => rO x
  | .mnx _ xs => rL xs
  | .mln _ x => rO x
  | .slc _ x a b c => rO x ++ (rOO a ++ (rOO b ++ rOO c))
  | .sst x a b => rO x ++ (rOO a ++ rOO b)
  | .eqp _ x y => rO x ++ rO y
  | .sla _ _ x => rO x
  | .b2s x => rO x
  | .cvu x => rO x
  | .cvp _ _ x => rO x
  | .nes x => rO x
  | .usd x => rO x
  | .ust _ x y => rO x ++ rO y
  | .lki _ _ x y => rO x ++ rO y
def rA (a : A) : List P :=
  match a with
  | .mv x => rO x
  | .ld _ x => rO x
  | .fad _ x => rO x
  | .call f xs => rO f ++ rL xs
  | .iad _ x y => rO x ++ rO y
  | .st _ x y => rO x ++ rO y
  | .len x => rO x
  | .pick x y z => rO x ++ (rO y ++ rO z)
  | .bin _ x y => rO x ++ rO y
  | .un _ x => rO x
  | .box _ x => rO x
  | .bld _ ps => rPs ps
  | .bsl _ _ _ _ ps => rPs ps
  | .ext x _ => rO x
  | .app _ _ _ x y => rO x ++ rO y
  | .nck x => rO x
  | .o b => rB b
def rI (i : I) : List P := match i.g with | some g => g.1 :: rA i.a | none => rA i.a

def Ag (s t : S) (l : List P) : Prop := ∀ p ∈ l, s.get p = t.get p
section
variable {s t : S} {h : H} {cl : Call}
theorem Ag.l {a b : List P} (h : Ag s t (a ++ b)) : Ag s t a := fun p hp => h p (List.mem_append_left _ hp)
theorem Ag.r {a b : List P} (h : Ag s t (a ++ b)) : Ag s t b := fun p hp => h p (List.mem_append_right _ hp)
theorem opd_ag {x : Opd} (h : Ag s t (rO x)) : opd s x = opd t x := by
  cases x with
  | t p => exact h p (by simp [rO])
  | c v => rfl
theorem opds_ag : ∀ {xs : List Opd}, Ag s t (rL xs) → opds s xs = opds t xs
  | [], _ => rfl
  | x :: xs, h => by
    have h' : Ag s t (rO x ++ rL xs) := h
    show bnd (opd s x) (fun v => bnd (opds s xs) (fun vs => some (v :: vs))) = bnd (opd t x) (fun v => bnd (opds t xs) (fun vs => some (v :: vs)))
    rw [opd_ag h'.l, opds_ag h'.r]
theorem opdsU_ag : ∀ {xs : List Opd}, Ag s t (rL xs) → opdsU s xs = opdsU t xs
  | [], _ => rfl
  | x :: xs, h => by
    have h' : Ag s t (rO x ++ rL xs) := h
    show bnd (opd s x) (fun v => onU v (fun v => bnd (opdsU s xs) (fun vs => some (v :: vs)))) = bnd (opd t x) (fun v => onU v (fun v => bnd (opdsU t xs) (fun vs => some (v :: vs))))
    rw [opd_ag h'.l, opdsU_ag h'.r]
theorem fill_ag : ∀ {ps : List (Nat × Nat × Opd)}, Ag s t (rPs ps) → fill s ps = fill t ps
  | [], _ => rfl
  | x :: ps, h => by
    have h' : Ag s t (rO x.2.2 ++ rPs ps) := h
    funext cs
    show bnd (opd s x.2.2) (fun v => onCells v (fun l => guardB (Nat.beq (lenX l) x.2.1) (bnd (splice x.1 l cs) (fill s ps)))) =
      bnd (opd t x.2.2) (fun v => onCells v (fun l => guardB (Nat.beq (lenX l) x.2.1) (bnd (splice x.1 l cs) (fill t ps))))
    rw [opd_ag h'.l, fill_ag h'.r]
theorem bound_ag {β : Type} {x : Option Opd} (h : Ag s t (rOO x)) (d y : Nat) (f : Nat → Option β) : bound s x d y f = bound t x d y f := by
  cases x with
  | none => rfl
  | some x =>
    show bnd (opd s x) (fun v => onNat v (fun n => guardB (Nat.ble n y) (f n))) = bnd (opd t x) (fun v => onNat v (fun n => guardB (Nat.ble n y) (f n)))
    rw [opd_ag (x := x) h]
theorem actB_ag (b : B) (hx : Ag s t (rB b)) : actB s h b = actB t h b := by
  cases b with
  | eqb n x y => have h1 : Ag s t (rO x ++ rO y) := hx; show aEqb s h n x y = aEqb t h n x y; simp only [aEqb, opd_ag h1.l, opd_ag h1.r]
  | eqs k n x y => have h1 : Ag s t (rO x ++ rO y) := hx; show aEqs s h k n x y = aEqs t h k n x y; simp only [aEqs, opd_ag h1.l, opd_ag h1.r]
  | eqn k n x y => have h1 : Ag s t (rO x ++ rO y) := hx; show aEqn s h k n x y = aEqn t h k n x y; simp only [aEqn, opd_ag h1.l, opd_ag h1.r]
  | cvi k x => have h1 : Ag s t (rO x) := hx; show aCvi s h k x = aCvi t h k x; simp only [aCvi, opd_ag h1]
  | mkf f xs ys => have h1 : Ag s t (rL xs ++ rL ys) := hx; show aMkf s h f xs ys = aMkf t h f xs ys; simp only [aMkf, opdsU_ag h1.l, opdsU_ag h1.r]
  | mkm => rfl
  | mks T z b zc x y => have h1 : Ag s t (rO x ++ rO y) := hx; show aMks s h T z b zc x y = aMks t h T z b zc x y; simp only [aMks, opd_ag h1.l, opd_ag h1.r]
  | fld o n x => have h1 : Ag s t (rO x) := hx; show aFld s h o n x = aFld t h o n x; simp only [aFld, opd_ag h1]
  | idv l z n x y => have h1 : Ag s t (rO x ++ rO y) := hx; show aIdv s h l z n x y = aIdv t h l z n x y; simp only [aIdv, opd_ag h1.l, opd_ag h1.r]
  | ids x y => have h1 : Ag s t (rO x ++ rO y) := hx; show aIds s h x y = aIds t h x y; simp only [aIds, opd_ag h1.l, opd_ag h1.r]
  | iada l z x y => have h1 : Ag s t (rO x ++ rO y) := hx; show aIada s h l z x y = aIada t h l z x y; simp only [aIada, opd_ag h1.l, opd_ag h1.r]
  | lkp q z ok x y => have h1 : Ag s t (rO x ++ rO y) := hx; show aLkp s h q z ok x y = aLkp t h q z ok x y; simp only [aLkp, opd_ag h1.l, opd_ag h1.r]
  | mup q x y z => have h1 : Ag s t (rO x ++ (rO y ++ rO z)) := hx; show aMup s h q x y z = aMup t h q x y z; simp only [aMup, opd_ag h1.l, opd_ag h1.r.l, opd_ag h1.r.r]
  | men q z x y => have h1 : Ag s t (rO x ++ rO y) := hx; show aMen s h q z x y = aMen t h q z x y; simp only [aMen, opd_ag h1.l, opd_ag h1.r]
  | est x y z => have h1 : Ag s t (rO x ++ (rO y ++ rO z)) := hx; show aEst s h x y z = aEst t h x y z; simp only [aEst, opd_ag h1.l, opd_ag h1.r.l, opd_ag h1.r.r]
  | del q x y => have h1 : Ag s t (rO x ++ rO y) := hx; show aDel s h q x y = aDel t h q x y; simp only [aDel, opd_ag h1.l, opd_ag h1.r]
  | cpy z x y => have h1 : Ag s t (rO x ++ rO y) := hx; show aCpy s h z x y = aCpy t h z x y; simp only [aCpy, opd_ag h1.l, opd_ag h1.r]
  | clr z zc x => have h1 : Ag s t (rO x) := hx; show aClr s h z zc x = aClr t h z zc x; simp only [aClr, opd_ag h1]
  | mnx m xs => have h1 : Ag s t (rL xs) := hx; show aMnx s h m xs = aMnx t h m xs; simp only [aMnx, opds_ag h1]
  | mln m x => have h1 : Ag s t (rO x) := hx; show aMln s h m x = aMln t h m x; simp only [aMln, opd_ag h1]
  | slc z x a b c =>
    have h1 : Ag s t (rO x ++ (rOO a ++ (rOO b ++ rOO c))) := hx
    show aSlc s h z x a b c = aSlc t h z x a b c
    have e : slcW s h z a b c = slcW t h z a b c := by
      funext y
      cases y <;> simp only [slcW, bound_ag h1.r.l, bound_ag h1.r.r.l, bound_ag h1.r.r.r]
    simp only [aSlc, opd_ag h1.l, e]
  | sst x a b => have h1 : Ag s t (rO x ++ (rOO a ++ rOO b)) := hx; show aSst s h x a b = aSst t h x a b; simp only [aSst, opd_ag h1.l, bound_ag h1.r.l, bound_ag h1.r.r]
  | eqp n x y => have h1 : Ag s t (rO x ++ rO y) := hx; show aEqp s h n x y = aEqp t h n x y; simp only [aEqp, opd_ag h1.l, opd_ag h1.r]
  | sla n z x => have h1 : Ag s t (rO x) := hx; show aSla s h n z x = aSla t h n z x; simp only [aSla, opd_ag h1]
  | b2s x => have h1 : Ag s t (rO x) := hx; show aB2s s h x = aB2s t h x; simp only [aB2s, opd_ag h1]
  | cvu x => have h1 : Ag s t (rO x) := hx; show aCvu s h x = aCvu t h x; simp only [aCvu, opd_ag h1]
  | cvp u n x => have h1 : Ag s t (rO x) := hx; show aCvp s h u n x = aCvp t h u n x; simp only [aCvp, opd_ag h1]
  | nes x => have h1 : Ag s t (rO x) := hx; show aMv s h x = aMv t h x; simp only [aMv, opd_ag h1]
  | usd x => have h1 : Ag s t (rO x) := hx; show aUsd s h x = aUsd t h x; simp only [aUsd, opd_ag h1]
  | ust e x y => have h1 : Ag s t (rO x ++ rO y) := hx; show aUst s h e x y = aUst t h e x y; simp only [aUst, opd_ag h1.l, opd_ag h1.r]
  | lki q k x y => have h1 : Ag s t (rO x ++ rO y) := hx; show aLki s h q k x y = aLki t h q k x y; simp only [aLki, aLkp, opd_ag h1.l, opd_ag h1.r]
theorem act_ag (x : A) (hx : Ag s t (rA x)) : act cl s h x = act cl t h x := by
  cases x with
  | mv x => have h1 : Ag s t (rO x) := hx; show aMv s h x = aMv t h x; simp only [aMv, opd_ag h1]
  | ld n x => have h1 : Ag s t (rO x) := hx; show aLd s h n x = aLd t h n x; simp only [aLd, opd_ag h1]
  | fad o x => have h1 : Ag s t (rO x) := hx; show aFad s h o x = aFad t h o x; simp only [aFad, opd_ag h1]
  | call f xs => have h1 : Ag s t (rO f ++ rL xs) := hx; show aCall cl s h f xs = aCall cl t h f xs; simp only [aCall, opd_ag h1.l, opds_ag h1.r]
  | iad z x y => have h1 : Ag s t (rO x ++ rO y) := hx; show aIad s h z x y = aIad t h z x y; simp only [aIad, opd_ag h1.l, opd_ag h1.r]
  | st n x y => have h1 : Ag s t (rO x ++ rO y) := hx; show aSt s h n x y = aSt t h n x y; simp only [aSt, opd_ag h1.l, opd_ag h1.r]
  | len x => have h1 : Ag s t (rO x) := hx; show aLen s h x = aLen t h x; simp only [aLen, opd_ag h1]
  | pick x y z => have h1 : Ag s t (rO x ++ (rO y ++ rO z)) := hx; show aPick s h x y z = aPick t h x y z; simp only [aPick, aMv, opd_ag h1.l, opd_ag h1.r.l, opd_ag h1.r.r]
  | bin o x y => have h1 : Ag s t (rO x ++ rO y) := hx; show aBin s h o x y = aBin t h o x y; simp only [aBin, opd_ag h1.l, opd_ag h1.r]
  | un o x => have h1 : Ag s t (rO x) := hx; show aUn s h o x = aUn t h o x; simp only [aUn, opd_ag h1]
  | box T x => have h1 : Ag s t (rO x) := hx; show aBox s h T x = aBox t h T x; simp only [aBox, opd_ag h1]
  | bld z ps => have h1 : Ag s t (rPs ps) := hx; show aBld s h z ps = aBld t h z ps; simp only [aBld, fill_ag h1]
  | bsl T z l zc ps => have h1 : Ag s t (rPs ps) := hx; show aBsl s h T z l zc ps = aBsl t h T z l zc ps; simp only [aBsl, fill_ag h1]
  | ext x i => have h1 : Ag s t (rO x) := hx; show aExt s h x i = aExt t h x i; simp only [aExt, opd_ag h1]
  | app T z b x y => have h1 : Ag s t (rO x ++ rO y) := hx; show aApp s h T z b x y = aApp t h T z b x y; simp only [aApp, opd_ag h1.l, opd_ag h1.r]
  | nck x => have h1 : Ag s t (rO x) := hx; show aNck s h x = aNck t h x; simp only [aNck, opd_ag h1]
  | o b => exact actB_ag b hx
end

/-- the value of an operation, guard and all -/
noncomputable def insV (cl : Call) (s : S) (h : H) (i : I) : R := bnd (wanted s i.g) (fun b => Bool.rec (motive := fun _ => R) (some (.t [], h)) (act cl s h i.a) b)
section
variable {s t s' : S} {h h' : H} {cl : Call} {i : I}
theorem ins_insV : ins cl s h i = some (s', h') ↔ ∃ v, insV cl s h i = some (v, h') ∧ setD s h' i.d v = some (s', h') := by
  obtain ⟨d, a, g⟩ := i
  show bnd (wanted s g) (fun b => Bool.rec (motive := fun _ => SH) (setD s h d (.t [])) (insA cl s h d a) b) = some (s', h') ↔ ∃ v, bnd (wanted s g) (fun b => Bool.rec (motive := fun _ => R) (some (.t [], h)) (act cl s h a) b) = some (v, h') ∧ setD s h' d v = some (s', h')
  have hset : ∀ (h1 : H) (v : V), setD s h1 d v = some (s', h') → h1 = h' := by
    intro h1 v e
    cases d with
    | none => cases e; rfl
    | some q =>
      change bnd (s.set (some v) q) (fun s => some (s, h1)) = some (s', h') at e
      rw [Tr.set_eq] at e; cases e; rfl
  cases hw : wanted s g with
  | none => simp
  | some b =>
    simp only [bnd_some]
    cases b with
    | false =>
      constructor
      · intro e; have := hset _ _ e; subst this; exact ⟨_, rfl, e⟩
      · rintro ⟨v, e1, e2⟩; cases e1; exact e2
    | true =>
      show bnd2 (act cl s h a) (fun v h => setD s h d v) = some (s', h') ↔ _
      rw [bnd2_eq]
      constructor
      · rintro ⟨v, h1, e1, e2⟩; have := hset _ _ e2; subst this; exact ⟨v, e1, e2⟩
      · rintro ⟨v, e1, e2⟩; exact ⟨v, h', e1, e2⟩
theorem insV_ag (hx : Ag s t (rI i)) : insV cl s h i = insV cl t h i := by
  obtain ⟨d, a, g⟩ := i
  cases g with
  | none =>
    have h1 : Ag s t (rA a) := hx
    simp only [insV, act_ag a h1]
    rfl
  | some g =>
    have h1 : Ag s t (rA a) := fun p hp => hx p (List.mem_cons_of_mem _ hp)
    have h2 : s.get g.1 = t.get g.1 := hx g.1 (List.mem_cons_self ..)
    simp only [insV, act_ag a h1, wanted, h2]
end
end Go.Am
namespace Go.Am
set_option autoImplicit false
set_option linter.unusedSimpArgs false
set_option linter.unusedVariables false

/-- operations that do not look at the heap and leave it -/
def pureB (b : B) : Bool :=
  match b with
  | .eqb _ _ _ | .eqs _ _ _ _ | .eqn _ _ _ _ | .cvi _ _ | .fld _ _ _ | .idv _ _ _ _ _ | .ids _ _ | .iada _ _ _ _ | .mnx _ _ | .slc _ _ _ _ _ | .sst _ _ _ | .eqp _ _ _ | .nes _ | .usd _ => true
  | _ => false
def pureA (a : A) : Bool :=
  match a with
  | .mv _ | .fad _ _ | .iad _ _ _ | .len _ | .pick _ _ _ | .bin _ _ _ | .un _ _ | .bld _ _ | .ext _ _ | .nck _ => true
  | .o b => pureB b
  | _ => false
/-- operations that may write or make -/
def effB (b : B) : Bool :=
  match b with
  | .mkf _ _ _ | .mkm | .mks _ _ _ _ _ _ | .mup _ _ _ _ | .men _ _ _ _ | .est _ _ _ | .del _ _ _ | .cpy _ _ _ | .clr _ _ _ | .ust _ _ _ => true
  | _ => false
def effA (a : A) : Bool :=
  match a with
  | .call _ _ | .st _ _ _ | .box _ _ | .bsl _ _ _ _ _ | .app _ _ _ _ _ => true
  | .o b => effB b
  | _ => false
end Go.Am
namespace Go.Am
set_option autoImplicit false
set_option linter.unusedSimpArgs false
set_option linter.unusedVariables false
/-- the heap is passed on unseen -/
def Blind (f : H → R) : Prop := ∀ h k v h', f h = some (v, h') → h' = h ∧ f k = some (v, k)
namespace Blind
theorem ret (v : V) : Blind (fun h => some (v, h)) := fun h k v' h' e => by cases e; exact ⟨rfl, rfl⟩
theorem none : Blind (fun _ => Option.none) := fun h k v h' e => by cases e
theorem bnd {α : Type} (x : Option α) {f : H → α → R} (hf : ∀ a, Blind (fun h => f h a)) : Blind (fun h => Go.Am.bnd x (f h)) := by
  cases x with
  | none => exact Blind.none
  | some a => exact hf a
theorem guardB (b : Bool) {f : H → R} (hf : Blind f) : Blind (fun h => Go.Am.guardB b (f h)) := by cases b; exact Blind.none; exact hf
theorem natK (n : Nat) {f : H → Nat → R} (hf : ∀ n, Blind (fun h => f h n)) : Blind (fun h => Go.Am.natK n (f h)) := by
  have e : (fun h => Go.Am.natK n (f h)) = fun h => f h n := by funext h; exact natK_eq _ _
  rw [e]; exact hf n
theorem boolK (n : Bool) {f : H → Bool → R} (hf : ∀ n, Blind (fun h => f h n)) : Blind (fun h => Go.Am.boolK n (f h)) := by
  have e : (fun h => Go.Am.boolK n (f h)) = fun h => f h n := by funext h; exact boolK_eq _ _
  rw [e]; exact hf n
theorem onW (v : V) {f : H → W → R} (hf : ∀ x, Blind (fun h => f h x)) : Blind (fun h => Go.Am.onW v (f h)) := by
  cases v with
  | w x => exact hf x
  | a _ => exact Blind.none
  | t _ => exact Blind.none
theorem onAgg (v : V) {f : H → List W → R} (hf : ∀ x, Blind (fun h => f h x)) : Blind (fun h => Go.Am.onAgg v (f h)) := by
  cases v with
  | a x => exact hf x
  | w _ => exact Blind.none
  | t _ => exact Blind.none
theorem onTup (v : V) {f : H → List U → R} (hf : ∀ x, Blind (fun h => f h x)) : Blind (fun h => Go.Am.onTup v (f h)) := by
  cases v with
  | t x => exact hf x
  | w _ => exact Blind.none
  | a _ => exact Blind.none
theorem onPtr (v : V) {f : H → P → Nat → R} (hf : ∀ b o, Blind (fun h => f h b o)) : Blind (fun h => Go.Am.onPtr v (f h)) :=
  Blind.onW v fun x => by cases x <;> first | exact hf _ _ | exact Blind.none
theorem onBool (v : V) {t e : H → R} (ht : Blind t) (he : Blind e) : Blind (fun h => Go.Am.onBool v (t h) (e h)) :=
  Blind.onW v fun x => by
    cases x with
    | bool b => cases b; exact he; exact ht
    | _ => exact Blind.none
theorem onInt (v : V) {f : H → IntKind → Int → R} (hf : ∀ b o, Blind (fun h => f h b o)) : Blind (fun h => Go.Am.onInt v (f h)) :=
  Blind.onW v fun x => by cases x <;> first | exact hf _ _ | exact Blind.none
theorem onNat (v : V) {f : H → Nat → R} (hf : ∀ b, Blind (fun h => f h b)) : Blind (fun h => Go.Am.onNat v (f h)) :=
  Blind.onW v fun x => by
    cases x with
    | int k n => cases n; exact hf _; exact Blind.none
    | _ => exact Blind.none
theorem onSl (v : V) {f : H → P → Nat → Nat → Nat → Nat → Bool → R} (hf : ∀ b o z l c e, Blind (fun h => f h b o z l c e)) : Blind (fun h => Go.Am.onSl v (f h)) :=
  Blind.onW v fun x => by cases x <;> first | exact hf _ _ _ _ _ _ | exact Blind.none
theorem bit {f : H → Bool → R} (x : W) (hf : ∀ b, Blind (fun h => f h b)) : Blind (fun h => wBit (f h) x) := by cases x <;> first | exact hf _ | exact Blind.none
theorem str {f : H → List UInt8 → R} (x : W) (hf : ∀ b, Blind (fun h => f h b)) : Blind (fun h => wStr (f h) x) := by cases x <;> first | exact hf _ | exact Blind.none
theorem bound (s : S) (x : Option Opd) (d y : Nat) {f : H → Nat → R} (hf : ∀ n, Blind (fun h => f h n)) : Blind (fun h => Go.Am.bound s x d y (f h)) := by
  cases x with
  | none => exact hf d
  | some x => exact Blind.bnd _ fun v => Blind.onNat v fun n => Blind.guardB _ (hf n)
end Blind
section
variable {s : S} {cl : Call}
theorem blind_mv (x : Opd) : Blind (fun h => aMv s h x) := Blind.bnd _ fun _ => Blind.ret _
theorem blindB (b : B) (hp : pureB b = true) : Blind (fun h => actB s h b) := by
  cases b with
  | eqb n x y => exact Blind.bnd _ fun a => Blind.onW a fun x => Blind.bit x fun a => Blind.bnd _ fun b => Blind.onW b fun y => Blind.bit y fun b => Blind.boolK _ fun r => Blind.ret _
  | eqs k n x y => exact Blind.bnd _ fun a => Blind.onAgg a fun a => Blind.bnd _ fun b => Blind.onAgg b fun b => Blind.bnd _ fun r => Blind.boolK _ fun r => Blind.ret _
  | eqn k n x y => exact Blind.bnd _ fun a => Blind.onW a fun a => Blind.bnd _ fun b => Blind.onW b fun b => Blind.bnd _ fun ra => Blind.bnd _ fun rb => Blind.guardB _ (Blind.boolK _ fun r => Blind.ret _)
  | cvi k x => exact Blind.bnd _ fun v => Blind.onInt v fun _ n => Blind.bnd _ fun v => Blind.ret _
  | fld o n x => exact Blind.bnd _ fun v => Blind.onAgg v fun cs => Blind.bnd _ fun v => Blind.ret _
  | idv l z n x y => exact Blind.bnd _ fun v => Blind.onAgg v fun cs => Blind.bnd _ fun i => Blind.onNat i fun i => Blind.guardB _ (Blind.bnd _ fun v => Blind.ret _)
  | ids x y => exact Blind.bnd _ fun v => Blind.onW v fun x => Blind.str x fun t => Blind.bnd _ fun i => Blind.onNat i fun i => Blind.bnd _ fun c => Blind.bnd _ fun v => Blind.ret _
  | iada l z x y => exact Blind.bnd _ fun v => Blind.onPtr v fun b o => Blind.bnd _ fun i => Blind.onNat i fun i => Blind.guardB _ (Blind.natK _ fun o => Blind.ret _)
  | mnx m xs =>
    refine Blind.bnd _ fun vs => ?_
    cases vs with
    | nil => exact Blind.none
    | cons v vs => exact Blind.onInt v fun k a => Blind.bnd _ fun v => Blind.ret _
  | slc z x a b c =>
    refine Blind.bnd _ fun v => Blind.onW v fun x => ?_
    cases x with
    | nils => exact Blind.guardB _ (Blind.bound _ _ _ _ fun m => Blind.bound _ _ _ _ fun hh => Blind.bound _ _ _ _ fun l => Blind.ret _)
    | sl b o z' len cap ex => exact Blind.guardB _ (Blind.guardB _ (Blind.bound _ _ _ _ fun m => Blind.bound _ _ _ _ fun hh => Blind.bound _ _ _ _ fun l => Blind.natK _ fun o => Blind.natK _ fun n => Blind.natK _ fun c => Blind.boolK _ fun e => Blind.ret _))
    | _ => exact Blind.none
  | sst x a b => exact Blind.bnd _ fun v => Blind.onW v fun x => Blind.str x fun t => Blind.bound _ _ _ _ fun hh => Blind.bound _ _ _ _ fun l => Blind.bnd _ fun v => Blind.ret _
  | eqp n x y => exact Blind.bnd _ fun a => Blind.onPtr a fun b o => Blind.bnd _ fun c => Blind.onPtr c fun b' o' => Blind.guardB _ (Blind.guardB _ (Blind.boolK _ fun r => Blind.ret _))
  | nes x => exact blind_mv x
  | usd x =>
    refine Blind.bnd _ fun v => Blind.onW v fun x => ?_
    cases x with
    | nils => exact Blind.ret _
    | sl b o z' len cap ex => exact Blind.guardB _ (Blind.ret _)
    | _ => exact Blind.none
  | _ => cases hp
theorem blindA (a : A) (hp : pureA a = true) : Blind (fun h => act cl s h a) := by
  cases a with
  | mv x => exact blind_mv x
  | fad o x => exact Blind.bnd _ fun v => Blind.onPtr v fun b o => Blind.natK _ fun o => Blind.ret _
  | iad z x y => exact Blind.bnd _ fun v => Blind.onSl v fun b o z' l c e => Blind.bnd _ fun i => Blind.onNat i fun i => Blind.guardB _ (Blind.guardB _ (Blind.natK _ fun o => Blind.ret _))
  | len x => exact Blind.bnd _ fun v => Blind.onW v fun x => by cases x <;> first | exact Blind.ret _ | exact Blind.none
  | pick x y z => exact Blind.bnd _ fun c => Blind.onBool c (blind_mv y) (blind_mv z)
  | bin o x y => exact Blind.bnd _ fun a => Blind.onW a fun a => Blind.bnd _ fun b => Blind.onW b fun b => Blind.bnd _ fun v => Blind.ret _
  | un o x => exact Blind.bnd _ fun a => Blind.onW a fun a => Blind.bnd _ fun v => Blind.ret _
  | bld z ps => exact Blind.bnd _ fun cs => Blind.ret _
  | ext x i => exact Blind.bnd _ fun v => Blind.onTup v fun vs => Blind.bnd _ fun u => by cases u; exact Blind.ret _; exact Blind.ret _
  | nck x => exact Blind.bnd _ fun v => Blind.onPtr v fun _ _ => Blind.ret _
  | o b => exact blindB b hp
  | _ => cases hp
theorem ro_lkp {q : Q} {z : U} {ok : Bool} {x y : Opd} {h h' : H} {v : V} (hx : aLkp s h q z ok x y = some (v, h')) : h' = h := by
  obtain ⟨m, _, g1⟩ := bnd_eq.1 hx
  obtain ⟨m, _, g2⟩ := onW_eq.1 g1
  obtain ⟨k, _, g3⟩ := bnd_eq.1 g2
  obtain ⟨k, _, g4⟩ := onU_eq.1 g3
  obtain ⟨_, g5⟩ := guardB_eq.1 g4
  have ok1 : ∀ (c d : Bool) (u : U), okR h c d u = some (v, h') → h' = h := by
    intro c d u e
    cases c with
    | false => cases u <;> (cases e; rfl)
    | true => cases e; rfl
  cases m with
  | nilm => exact ok1 _ _ _ g5
  | map r =>
    obtain ⟨es, c, _, g6⟩ := atMap_eq.1 (show atMap h r (fun es _ => bnd (findK q k es 0) (lkpR h ok z)) = some (v, h') from g5)
    obtain ⟨r, _, g7⟩ := bnd_eq.1 g6
    cases r with
    | none => exact ok1 _ _ _ g7
    | some p => obtain ⟨_, u⟩ := p; exact ok1 _ _ _ g7
  | _ => cases g5
/-- what neither writes nor makes -/
theorem ro_a (a : A) (he : effA a = false) {h h' : H} {v : V} (hx : act cl s h a = some (v, h')) : h' = h := by
  by_cases hp : pureA a = true
  · exact (blindA (cl := cl) (s := s) a hp h h v h' hx).1
  · cases a with
    | ld n x =>
      obtain ⟨u, _, g1⟩ := bnd_eq.1 (show bnd (opd s x) (fun v => onPtr v (fun b o => atRow h b (fun _ _ cs => bnd (cellN n (dropX o cs)) (fun v => some (v, h))))) = some (v, h') from hx)
      obtain ⟨b, o, _, g2⟩ := onPtr_eq.1 g1
      obtain ⟨_, _, cs, _, g3⟩ := atRow_eq.1 g2
      obtain ⟨_, _, g4⟩ := bnd_eq.1 g3
      cases g4; rfl
    | o b =>
      cases b with
      | lkp q z ok x y => exact ro_lkp hx
      | lki q k x y => exact ro_lkp (lki_lkp hx).1
      | sla n z x =>
        obtain ⟨u, _, g1⟩ := bnd_eq.1 hx
        obtain ⟨b, o, _, g2⟩ := onPtr_eq.1 g1
        obtain ⟨_, cs, _, g3⟩ := atOwn_eq.1 g2
        have := (guardB_eq.1 g3).2; cases this; rfl
      | b2s x =>
        obtain ⟨u, _, g1⟩ := bnd_eq.1 hx
        obtain ⟨m, _, g2⟩ := onW_eq.1 g1
        cases m with
        | nils => cases g2; rfl
        | sl b o z len cap ex =>
          obtain ⟨_, g3⟩ := guardB_eq.1 g2
          obtain ⟨_, _, cs, _, g4⟩ := atRow_eq.1 g3
          obtain ⟨_, _, g5⟩ := bnd_eq.1 g4
          obtain ⟨_, _, g6⟩ := bnd_eq.1 g5
          cases g6; rfl
        | _ => cases g2
      | cvu x =>
        obtain ⟨u, _, g1⟩ := bnd_eq.1 hx
        obtain ⟨b, o, _, g2⟩ := onPtr_eq.1 g1
        obtain ⟨_, _, cs, _, g3⟩ := atRow_eq.1 g2
        have := (guardB_eq.1 g3).2; cases this; rfl
      | cvp u n x =>
        obtain ⟨u, _, g1⟩ := bnd_eq.1 hx
        obtain ⟨b, o, _, g2⟩ := onPtr_eq.1 g1
        obtain ⟨_, cs, _, g3⟩ := atOwn_eq.1 g2
        have := (guardB_eq.1 (guardB_eq.1 (guardB_eq.1 g3).2).2).2; cases this; rfl
      | mln mp x =>
        obtain ⟨m, _, g1⟩ := bnd_eq.1 (show bnd (opd s x) (fun v => onW v (fun x => mlnW h mp x)) = some (v, h') from hx)
        obtain ⟨m, _, g2⟩ := onW_eq.1 g1
        cases m with
        | str t => exact (lenV_eq (guardB_eq.1 g2).2).2
        | nilm => have := (guardB_eq.1 g2).2; cases this; rfl
        | map r =>
          obtain ⟨es, c, _, g6⟩ := atMap_eq.1 (guardB_eq.1 g2).2
          exact (lenV_eq g6).2
        | _ => cases g2
      | _ => first | (cases he; done) | exact absurd rfl hp
    | _ => first | (cases he; done) | exact absurd rfl hp
theorem blind_insV {i : I} (hp : pureA i.a = true) {h k h' : H} {v : V} (hx : insV cl s h i = some (v, h')) : h' = h ∧ insV cl s k i = some (v, k) := by
  refine (Blind.bnd (f := fun h b => Bool.rec (motive := fun _ => R) (some (.t [], h)) (act cl s h i.a) b) _ fun b => ?_) h k v h' hx
  cases b with
  | false => exact Blind.ret _
  | true => exact blindA i.a hp
theorem ro_insV {i : I} (he : effA i.a = false) {h h' : H} {v : V} (hx : insV cl s h i = some (v, h')) : h' = h := by
  obtain ⟨b, _, g⟩ := bnd_eq.1 hx
  cases b with
  | false => cases g; rfl
  | true => exact ro_a i.a he g
end
end Go.Am
