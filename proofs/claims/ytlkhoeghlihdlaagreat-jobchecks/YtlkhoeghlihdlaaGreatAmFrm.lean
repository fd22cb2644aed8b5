import Derived.Test.YtlkhoeghlihdlaaGreatAmRun1
import Derived.RangeFuncRecord
namespace Go.Am
set_option autoImplicit false
set_option linter.unusedSimpArgs false
set_option linter.unusedVariables false
/-- what a run of the abstract machine may change in the heap -/
structure Mono (h h' : H) : Prop where
  sz : h.sz.nat ≤ h'.sz.nat
  ex : ∃ l n, h'.log = l ++ h.log ∧ h'.nw = n ++ h.nw ∧ (∀ b, b ∉ l → b ∉ n → h'.tr.get b = h.tr.get b) ∧ (∀ b ∈ n, h.sz.nat ≤ b.nat ∧ b.nat < h'.sz.nat) ∧
    (∀ b ∈ l, b ∈ n ∨ ∃ o, h.tr.get b = some o ∧ o.mut = true) ∧ ∀ b : P, h.sz.nat ≤ b.nat → b.nat < h'.sz.nat → b ∈ n
theorem Mono.refl (h : H) : Mono h h := ⟨Nat.le_refl _, [], [], rfl, rfl, fun _ _ _ => rfl, by simp, by simp, fun b h1 h2 => by omega⟩
theorem Mono.trans {a b c : H} (x : Mono a b) (y : Mono b c) : Mono a c := by
  obtain ⟨x0, l1, n1, x1, x2, x3, x4, x5, x6⟩ := x
  obtain ⟨y0, l2, n2, y1, y2, y3, y4, y5, y6⟩ := y
  refine ⟨Nat.le_trans x0 y0, l2 ++ l1, n2 ++ n1, by rw [y1, x1, List.append_assoc], by rw [y2, x2, List.append_assoc], ?_, ?_, ?_, ?_⟩
  · intro q h1 h2
    rw [List.mem_append] at h1 h2
    rw [y3 q (fun h => h1 (.inl h)) (fun h => h2 (.inl h)), x3 q (fun h => h1 (.inr h)) (fun h => h2 (.inr h))]
  · intro q hq
    rcases List.mem_append.1 hq with h | h
    · have := y4 q h; omega
    · have := x4 q h; omega
  · intro q hq
    by_cases hn : q ∈ n2 ++ n1
    · exact .inl hn
    · right
      rw [List.mem_append] at hn
      rcases List.mem_append.1 hq with h | h
      · rcases y5 q h with k | ⟨o, k1, k2⟩
        · exact absurd (.inl k) hn
        · by_cases hl : q ∈ l1
          · exact (x5 q hl).resolve_left fun k => hn (.inr k)
          · exact ⟨o, by rw [← x3 q hl fun k => hn (.inr k)]; exact k1, k2⟩
      · exact (x5 q h).resolve_left fun k => hn (.inr k)
  · intro q h1 h2
    rcases Nat.lt_or_ge q.nat b.sz.nat with h3 | h3
    · exact List.mem_append_right _ (x6 q h1 h3)
    · exact List.mem_append_left _ (y6 q h3 h2)
theorem Mono.new (h : H) (o : O) : Mono h ⟨h.sz.next, Tr.put (some o) h.sz h.tr, h.log, h.sz :: h.nw⟩ :=
  ⟨by simp, [], [h.sz], rfl, rfl, fun b _ hb => Tr.get_put_ne _ (by simpa using hb) _, by simp, by simp, fun b h1 h2 => by
    have h2 : b.nat < h.sz.nat + 1 := by simpa using h2
    simp [P.nat_inj (show b.nat = h.sz.nat by omega)]⟩
theorem Mono.put {h : H} {b : P} {o : O} (o' : O) (hb : h.tr.get b = some o) (hm : o.mut = true) : Mono h ⟨h.sz, Tr.put (some o') b h.tr, b :: h.log, h.nw⟩ :=
  ⟨Nat.le_refl _, [b], [], rfl, rfl, fun q hq _ => Tr.get_put_ne _ (by simpa using hq) _, by simp, fun q hq => by
    have e := List.mem_singleton.1 hq; subst e; exact .inr ⟨o, hb, hm⟩, fun q h1 h2 => by have h2 : q.nat < h.sz.nat := h2; omega⟩

def MonX {β : Type} (pr : β → H) (h : H) (r : Option β) : Prop := ∀ y, r = some y → Mono h (pr y)
namespace MonX
variable {β : Type} {pr : β → H} {h : H}
theorem ret {y : β} (k : Mono h (pr y)) : MonX pr h (some y) := fun z e => by cases e; exact k
theorem none : MonX pr h Option.none := fun z e => by cases e
theorem bnd {α : Type} {x : Option α} {f : α → Option β} (hf : ∀ a, x = some a → MonX pr h (f a)) : MonX pr h (Go.Am.bnd x f) := by
  cases x with
  | none => exact MonX.none
  | some a => exact hf a rfl
theorem guardB {b : Bool} {f : Option β} (hf : MonX pr h f) : MonX pr h (Go.Am.guardB b f) := by cases b; exact MonX.none; exact hf
theorem natK {n : Nat} {f : Nat → Option β} (hf : MonX pr h (f n)) : MonX pr h (Go.Am.natK n f) := by rw [natK_eq]; exact hf
theorem boolK {n : Bool} {f : Bool → Option β} (hf : MonX pr h (f n)) : MonX pr h (Go.Am.boolK n f) := by rw [boolK_eq]; exact hf
theorem onW {v : V} {f : W → Option β} (hf : ∀ x, MonX pr h (f x)) : MonX pr h (Go.Am.onW v f) := by
  cases v with
  | w x => exact hf x
  | _ => exact MonX.none
theorem onU {v : V} {f : U → Option β} (hf : ∀ x, MonX pr h (f x)) : MonX pr h (Go.Am.onU v f) := by
  cases v with
  | w x => exact hf _
  | a x => exact hf _
  | t _ => exact MonX.none
theorem onCells {v : V} {f : List W → Option β} (hf : ∀ x, MonX pr h (f x)) : MonX pr h (Go.Am.onCells v f) := by
  cases v with
  | w x => exact hf _
  | a x => exact hf _
  | t _ => exact MonX.none
theorem onPtr {v : V} {f : P → Nat → Option β} (hf : ∀ b o, MonX pr h (f b o)) : MonX pr h (Go.Am.onPtr v f) :=
  MonX.onW fun x => by cases x <;> first | exact hf _ _ | exact MonX.none
theorem onMap {v : V} {f : P → Option β} (hf : ∀ b, MonX pr h (f b)) : MonX pr h (Go.Am.onMap v f) :=
  MonX.onW fun x => by cases x <;> first | exact hf _ | exact MonX.none
theorem onBool {v : V} {t e : Option β} (ht : MonX pr h t) (he : MonX pr h e) : MonX pr h (Go.Am.onBool v t e) :=
  MonX.onW fun x => by
    cases x with
    | bool b => cases b; exact he; exact ht
    | _ => exact MonX.none
theorem onNat {v : V} {f : Nat → Option β} (hf : ∀ b, MonX pr h (f b)) : MonX pr h (Go.Am.onNat v f) :=
  MonX.onW fun x => by
    cases x with
    | int k n => cases n; exact hf _; exact MonX.none
    | _ => exact MonX.none
theorem atRow {b : P} {f : Bool → Nat → List W → Option β} (hf : ∀ own T cs, h.tr.get b = some (.row own T cs) → MonX pr h (f own T cs)) : MonX pr h (Go.Am.atRow h b f) :=
  MonX.bnd fun o ho => by cases o <;> first | exact hf _ _ _ ho | exact MonX.none
theorem atOwn {b : P} {f : Nat → List W → Option β} (hf : ∀ T cs, h.tr.get b = some (.row true T cs) → MonX pr h (f T cs)) : MonX pr h (Go.Am.atOwn h b f) :=
  MonX.atRow fun own T cs ho => by
    cases own with
    | false => exact MonX.none
    | true => exact hf T cs ho
theorem atMap {b : P} {f : List E → Nat → Option β} (hf : ∀ es c, h.tr.get b = some (.map es c) → MonX pr h (f es c)) : MonX pr h (Go.Am.atMap h b f) :=
  MonX.bnd fun o ho => by cases o <;> first | exact hf _ _ ho | exact MonX.none
theorem atLp {b : P} {f : S → List P → C → C → Option C → Bool → Option β} (hf : ∀ sl ps asg body j busy, h.tr.get b = some (.lp sl ps asg body j busy) → MonX pr h (f sl ps asg body j busy)) : MonX pr h (Go.Am.bnd (h.tr.get b) (onLpO f)) :=
  MonX.bnd fun o ho => by cases o <;> first | exact hf _ _ _ _ _ _ ho | exact MonX.none
theorem new {o : O} {f : P → H → Option β} (k : MonX pr h (f h.sz ⟨h.sz.next, Tr.put (some o) h.sz h.tr, h.log, h.sz :: h.nw⟩)) : MonX pr h (h.new o f) := by rw [H.new_eq]; exact k
theorem put {b : P} {o : O} {f : H → Option β} (k : MonX pr h (f ⟨h.sz, Tr.put (some o) b h.tr, b :: h.log, h.nw⟩)) : MonX pr h (h.put b o f) := by rw [H.put_eq]; exact k
theorem from_ {h1 : H} {r : Option β} (m : Mono h h1) (k : MonX pr h1 r) : MonX pr h r := fun y e => m.trans (k y e)
theorem bnd2 {α : Type} {x : Option (α × H)} {f : α → H → Option β} (hx : MonX Prod.snd h x) (hf : ∀ a h1, x = some (a, h1) → MonX pr h1 (f a h1)) : MonX pr h (Go.Am.bnd2 x f) := by
  rcases x with _ | ⟨a, h1⟩
  · exact MonX.none
  · exact from_ (hx _ rfl) (hf a h1 rfl)
theorem bnd3 {x : RC} {f : X → S → H → Option β} (hx : MonX (fun y : X × S × H => y.2.2) h x) (hf : ∀ a s h1, x = some (a, s, h1) → MonX pr h1 (f a s h1)) : MonX pr h (Go.Am.bnd3 x f) := by
  rcases x with _ | ⟨a, s, h1⟩
  · exact MonX.none
  · exact from_ (hx _ rfl) (hf a s h1 rfl)
theorem bound {s : S} {x : Option Opd} {d y : Nat} {f : Nat → Option β} (hf : ∀ n, MonX pr h (f n)) : MonX pr h (Go.Am.bound s x d y f) := by
  cases x with
  | none => exact hf d
  | some x => exact MonX.bnd fun v _ => MonX.onNat fun n => MonX.guardB (hf n)
end MonX
abbrev MonR (h : H) (r : R) : Prop := MonX Prod.snd h r
def MonCall (cl : Call) : Prop := ∀ f args h, MonR h (cl f args h)
section
variable {s : S} {h : H} {cl : Call}
theorem mon_appNew {T z m : Nat} {cs : List W} : MonR h (appNew h T z m cs) := by
  unfold appNew
  refine MonX.natK ?_
  refine MonX.new ?_
  exact MonX.ret (Mono.new _ _)
theorem mon_appW {T z bytes : Nat} {xs : List W} {n : Nat} {x : W} : MonR h (appW h T z bytes xs n x) := by
  cases x with
  | nils => cases n with
    | zero => exact MonX.ret (Mono.refl _)
    | succ n => exact MonX.guardB mon_appNew
  | sl b o z' len cap ex =>
    cases n with
    | zero => exact MonX.ret (Mono.refl _)
    | succ n =>
      refine MonX.guardB ?_
      have h1 : MonR h (guardB (mulLe (Nat.add len (n + 1)) bytes roomB) (appOut h T b o z len ex xs (n + 1))) := by
        refine MonX.guardB (MonX.atRow fun own T' cs ho => MonX.bnd fun old _ => MonX.bnd fun new _ => ?_)
        cases ex with
        | true => exact mon_appNew
        | false =>
          cases own with
          | false => exact MonX.none
          | true => exact MonX.guardB (MonX.guardB (MonX.guardB (MonX.put (MonX.from_ (Mono.put _ ho rfl) mon_appNew))))
      have h2 : MonR h (appIn h b o z len cap ex xs (n + 1)) := MonX.atOwn fun T cs ho => MonX.bnd fun cs' _ => MonX.natK (MonX.put (MonX.ret (Mono.put _ ho rfl)))
      show MonR h (Bool.rec (motive := fun _ => R) (guardB (mulLe (Nat.add len (n + 1)) bytes roomB) (appOut h T b o z len ex xs (n + 1))) (appIn h b o z len cap ex xs (n + 1)) (Nat.ble (Nat.add len (n + 1)) cap))
      cases Nat.ble (Nat.add len (n + 1)) cap
      · exact h1
      · exact h2
  | _ => exact MonX.none
theorem mon_cellsOf {β : Type} {pr : β → H} {z : Nat} {f : List W → Nat → Option β} {x : W} (hf : ∀ l n, MonX pr h (f l n)) : MonX pr h (cellsOf h z f x) := by
  cases x with
  | nils => exact hf _ _
  | sl b o z' len _ _ => exact MonX.guardB (MonX.atRow fun _ _ cs _ => MonX.bnd fun l _ => hf _ _)
  | str s => exact MonX.guardB (hf _ _)
  | _ => exact MonX.none
theorem mon_addE {r : P} {es : List E} {c0 clock : Nat} {es0 : List E} {k v : U} {x : V} (ho : h.tr.get r = some (.map es0 c0)) : MonR h (addE h r es clock k v x) :=
  MonX.bnd fun es _ => MonX.natK (MonX.put (MonX.ret (Mono.put _ ho rfl)))
theorem mon_altE {r : P} {i : Nat} {es : List E} {c0 clock : Nat} {es0 : List E} {f : E → E} {x : V} (ho : h.tr.get r = some (.map es0 c0)) : MonR h (altE h r i es clock f x) :=
  MonX.bnd fun es _ => MonX.put (MonX.ret (Mono.put _ ho rfl))
theorem mon_cpyW {z : Nat} {xs : List W} {n : Nat} {d : W} : MonR h (cpyW h z xs n d) := by
  cases d with
  | nils => exact MonX.ret (Mono.refl _)
  | sl b o z' len _ _ => exact MonX.guardB (MonX.natK (MonX.bnd fun xs _ => MonX.atOwn fun T cs ho => MonX.bnd fun cs' _ => MonX.put (MonX.natK (MonX.ret (Mono.put _ ho rfl)))))
  | _ => exact MonX.none
theorem mon_clrW {z : Nat} {zc : List W} {x : W} : MonR h (clrW h z zc x) := by
  cases x with
  | nils => exact MonX.ret (Mono.refl _)
  | sl b o z' len _ _ =>
    cases len with
    | zero => exact MonX.ret (Mono.refl _)
    | succ len => exact MonX.guardB (MonX.atOwn fun T cs ho => MonX.bnd fun zs _ => MonX.bnd fun cs' _ => MonX.put (MonX.ret (Mono.put _ ho rfl)))
  | _ => exact MonX.none
theorem mon_actB (b : B) (he : effB b = true) : MonR h (actB s h b) := by
  cases b with
  | mkf f xs ys => exact MonX.bnd fun fs _ => MonX.bnd fun vs _ => (by refine MonX.new ?_; exact MonX.ret (Mono.new _ _))
  | mkm => show MonR h (aMkm h); unfold aMkm; refine MonX.new ?_; exact MonX.ret (Mono.new _ _)
  | mks T z b zc x y => exact MonX.bnd fun lv _ => MonX.onNat fun l => MonX.bnd fun cv _ => MonX.onNat fun c => MonX.guardB (MonX.guardB (MonX.bnd fun cs _ => (by refine MonX.new ?_; exact MonX.ret (Mono.new _ _))))
  | mup q x y z =>
    refine MonX.bnd fun mv _ => MonX.onMap fun r => MonX.bnd fun kv _ => MonX.onU fun kv => MonX.bnd fun vv _ => MonX.onU fun vv => MonX.guardB (MonX.atMap fun es clock ho => MonX.bnd fun f _ => ?_)
    cases f with
    | none => exact mon_addE ho
    | some p => exact mon_altE ho
  | men q z x y =>
    refine MonX.bnd fun mv _ => MonX.onMap fun r => MonX.bnd fun kv _ => MonX.onU fun kv => MonX.guardB (MonX.atMap fun es clock ho => MonX.bnd fun f _ => ?_)
    cases f with
    | none => exact mon_addE ho
    | some p => exact MonX.bnd fun e _ => mon_altE ho
  | est x y z => exact MonX.bnd fun mv _ => MonX.onMap fun r => MonX.bnd fun sv _ => MonX.onNat fun b => MonX.bnd fun vv _ => MonX.onU fun vv => MonX.atMap fun es clock ho => MonX.bnd fun i _ => mon_altE ho
  | del q x y =>
    refine MonX.bnd fun mv _ => MonX.onMap fun r => MonX.bnd fun kv _ => MonX.onU fun kv => MonX.guardB (MonX.atMap fun es clock ho => MonX.bnd fun f _ => ?_)
    cases f with
    | none => exact MonX.put (MonX.ret (Mono.put _ ho rfl))
    | some p => exact MonX.bnd fun es _ => MonX.put (MonX.ret (Mono.put _ ho rfl))
  | cpy z x y => exact MonX.bnd fun dv _ => MonX.onW fun dv => MonX.bnd fun xv _ => MonX.onW fun xv => mon_cellsOf fun xs n => mon_cpyW
  | clr z zc x => exact MonX.bnd fun v _ => MonX.onW fun x => mon_clrW
  | ust e x y =>
    exact MonX.bnd fun v _ => MonX.onPtr fun b o => MonX.bnd fun n _ => MonX.onNat fun n => MonX.guardB (MonX.guardB (MonX.natK (MonX.atOwn fun T cs ho => MonX.guardB (MonX.bnd fun l _ => MonX.bnd fun r _ => MonX.put (MonX.ret (Mono.put _ ho rfl))))))
  | _ => cases he
theorem mon_act (hcl : MonCall cl) (a : A) : MonR h (act cl s h a) := by
  by_cases he : effA a = false
  · intro y hy
    obtain ⟨v, h'⟩ := y
    have := ro_a a he hy
    subst this
    exact Mono.refl _
  · have he : effA a = true := by simpa using he
    cases a with
    | call f xs => exact MonX.bnd fun f _ => MonX.bnd fun vs _ => hcl f vs h
    | st n x y => exact MonX.bnd fun p _ => MonX.onPtr fun b o => MonX.bnd fun v _ => MonX.onCells fun vs => MonX.guardB (MonX.atOwn fun T cs ho => MonX.bnd fun cs' _ => MonX.put (MonX.ret (Mono.put _ ho rfl)))
    | box T x => exact MonX.bnd fun v _ => MonX.onCells fun cs => (by refine MonX.new ?_; exact MonX.ret (Mono.new _ _))
    | bsl T z l zc ps => exact MonX.bnd fun cs _ => (by refine MonX.new ?_; exact MonX.ret (Mono.new _ _))
    | app T z b x y => exact MonX.bnd fun sv _ => MonX.onW fun sv => MonX.bnd fun xv _ => MonX.onW fun xv => mon_cellsOf fun xs n => MonX.natK mon_appW
    | o b => exact mon_actB b he
    | _ => cases he
theorem mon_insV (hcl : MonCall cl) (i : I) : MonR h (insV cl s h i) := MonX.bnd fun b _ => by
  cases b with
  | false => exact MonX.ret (Mono.refl _)
  | true => exact mon_act hcl i.a
theorem mon_ins (hcl : MonCall cl) (i : I) : MonX Prod.snd h (ins cl s h i) := by
  rintro ⟨s', h'⟩ hx
  obtain ⟨v, h1, _⟩ := ins_insV.1 hx
  exact mon_insV hcl i _ h1
theorem mon_insL (hcl : MonCall cl) : ∀ {l : List I} {s : S} {h : H}, MonX Prod.snd h (insL cl l s h)
  | [], s, h => MonX.ret (Mono.refl _)
  | i :: l, s, h => MonX.bnd2 (mon_ins hcl i) fun s1 h1 _ => mon_insL hcl

/-! regions that draw their order -/
theorem overL_get {new : Tr O} : ∀ {ids : List P} {tr t : Tr O}, overL new ids tr = some t → ∀ b, t.get b = if b ∈ ids then new.get b else tr.get b
  | [], tr, t, e, b => by cases e; simp
  | q :: ids, tr, t, e, b => by
    have e' : bnd (tr.set (new.get q) q) (overL new ids) = some t := e
    rw [Tr.set_eq, bnd_some] at e'
    rw [overL_get e' b, Tr.get_put]
    by_cases h1 : b ∈ ids
    · simp [h1]
    · by_cases h2 : b = q
      · subst h2; simp
      · simp [h1, h2]
theorem killL_get : ∀ {ids : List P} {tr t : Tr O}, killL ids tr = some t → ∀ b o, t.get b = some o → o ≠ .dead → tr.get b = some o ∧ b ∉ ids
  | [], tr, t, e, b, o, hb, ho => by cases e; exact ⟨hb, by simp⟩
  | q :: ids, tr, t, e, b, o, hb, ho => by
    cases hq : tr.get q with
    | none =>
      have e' : killL ids tr = some t := by
        have : Option.rec (motive := fun _ => Option (Tr O)) (killL ids tr) (fun _ => bnd (tr.set (some .dead) q) (killL ids)) (tr.get q) = some t := e
        rw [hq] at this; exact this
      obtain ⟨h1, h2⟩ := killL_get e' b o hb ho
      refine ⟨h1, fun h3 => ?_⟩
      rcases List.mem_cons.1 h3 with rfl | h3
      · rw [hq] at h1; cases h1
      · exact h2 h3
    | some x =>
      have e' : killL ids (Tr.put (some .dead) q tr) = some t := by
        have : Option.rec (motive := fun _ => Option (Tr O)) (killL ids tr) (fun _ => bnd (tr.set (some .dead) q) (killL ids)) (tr.get q) = some t := e
        rw [hq] at this
        change bnd (tr.set (some .dead) q) (killL ids) = some t at this
        rw [Tr.set_eq] at this; exact this
      obtain ⟨h1, h2⟩ := killL_get e' b o hb ho
      rw [Tr.get_put] at h1
      by_cases h3 : b = q
      · rw [if_pos h3] at h1; cases h1; exact absurd rfl ho
      · rw [if_neg h3] at h1
        exact ⟨h1, by simp [h3, h2]⟩
theorem seen_get {u : Option (List Nat)} {done tbl : List (List P)} {tr k : Tr O} (e : seen u done tbl tr = some k) (b : P) (o : O) (hb : k.get b = some o) (ho : o ≠ .dead) : tr.get b = some o := by
  cases u with
  | none => cases e; simp at hb
  | some us =>
    obtain ⟨m, _, h2⟩ := bnd_eq.1 (show bnd (hid us done tbl) (fun m => killL m tr) = some k from e)
    exact (killL_get h2 b o hb ho).1
theorem insM_eq {h h' : H} {s s' : S} {i : I} {k : Tr O} {wr tch : List P} : insM cl s h i k = some ((s', h'), wr, tch) ↔
    ∃ h1 tr, ins cl s ⟨h.sz, k, [], []⟩ i = some (s', h1) ∧ wr = h1.log ∧ tch = h1.log ++ h1.nw ∧ overL h1.tr tch h.tr = some tr ∧ h' = ⟨h1.sz, tr, h1.log ++ h.log, h1.nw ++ h.nw⟩ := by
  obtain ⟨sz, tr0, log, nw⟩ := h
  show bnd2 (ins cl s ⟨sz, k, [], []⟩ i) (fun s' h' =>
      H.rec (motive := fun _ => Option ((S × H) × List P × List P)) (fun sz' tr' log' nw' => bnd (appX log' nw') (fun tch => bnd (overL tr' tch tr0) (fun tr'' =>
        bnd (appX log' log) (fun lg => bnd (appX nw' nw) (fun nn => some ((s', (⟨sz', tr'', lg, nn⟩ : H)), log', tch)))))) h') = _ ↔ _
  rw [bnd2_eq]
  constructor
  · rintro ⟨s1, ⟨sz', tr', log', nw'⟩, e1, e2⟩
    simp only [appX_eq, bnd_some, bnd_eq] at e2
    obtain ⟨t, e3, e4⟩ := e2
    simp only [Option.some.injEq, Prod.mk.injEq] at e4
    obtain ⟨⟨rfl, rfl⟩, rfl, rfl⟩ := e4
    exact ⟨_, t, e1, rfl, rfl, e3, rfl⟩
  · rintro ⟨⟨sz', tr', log', nw'⟩, t, e1, rfl, rfl, e3, rfl⟩
    refine ⟨_, _, e1, ?_⟩
    simp only [appX_eq, bnd_some, bnd_eq]
    exact ⟨t, e3, rfl⟩
theorem mon_over {h h1 : H} {k tr : Tr O} (hk : ∀ b o, k.get b = some o → o ≠ .dead → h.tr.get b = some o) (m : Mono ⟨h.sz, k, [], []⟩ h1) (ho : overL h1.tr (h1.log ++ h1.nw) h.tr = some tr) :
    Mono h ⟨h1.sz, tr, h1.log ++ h.log, h1.nw ++ h.nw⟩ := by
  obtain ⟨x0, l, n, x1, x2, x3, x4, x5, x6⟩ := m
  simp only [List.append_nil] at x1 x2
  refine ⟨x0, h1.log, h1.nw, rfl, rfl, fun b b1 b2 => ?_, by rw [x2]; exact x4, fun b hb => ?_, by rw [x2]; exact x6⟩
  · show tr.get b = _
    rw [overL_get ho b, if_neg (by simp [b1, b2])]
  · rw [x1] at hb
    rw [x2]
    rcases x5 b hb with k1 | ⟨o, k1, k2⟩
    · exact .inl k1
    · exact .inr ⟨o, hk b o k1 (O.mut_ne k2), k2⟩
theorem passL_cons {tbl : List (List P)} {i : I} {l : List I} {us : List (Option (List Nat))} {s s' : S} {h h' : H} {done wr wr' : List (List P)} :
    passL cl tbl (i :: l) us s h done wr = some ((s', h'), wr') ↔ ∃ u us' k s1 h1 w1 t1, us = u :: us' ∧ seen u done tbl h.tr = some k ∧ insM cl s h i k = some ((s1, h1), w1, t1) ∧
      passL cl tbl l us' s1 h1 (done ++ [t1]) (wr ++ [w1]) = some ((s', h'), wr') := by
  cases us with
  | nil => constructor
           · intro e; cases e
           · rintro ⟨_, _, _, _, _, _, _, e, _⟩; cases e
  | cons u us =>
    show bnd (seen u done tbl h.tr) (fun k => bnd2 (insM cl s h i k) (fun sh p => Prod.rec (motive := fun _ => Option ((S × H) × List (List P)))
        (fun s h => bnd (appX done [p.2]) (fun done => bnd (appX wr [p.1]) (fun wr => passL cl tbl l us s h done wr))) sh)) = _ ↔ _
    simp only [bnd_eq, bnd2_eq]
    constructor
    · rintro ⟨k, e1, ⟨s1, h1⟩, ⟨w1, t1⟩, e2, e3⟩
      obtain ⟨d1, q1, d2, q2, e3⟩ := e3
      rw [appX_eq] at q1 q2
      cases q1
      cases q2
      exact ⟨u, us, k, s1, h1, w1, t1, rfl, e1, e2, e3⟩
    · rintro ⟨u', us', k, s1, h1, w1, t1, e0, e1, e2, e3⟩
      cases e0
      exact ⟨k, e1, (s1, h1), (w1, t1), e2, _, appX_eq _ _, _, appX_eq _ _, e3⟩
theorem mon_passL (hcl : MonCall cl) {tbl : List (List P)} : ∀ {l : List I} {us : List (Option (List Nat))} {s : S} {h : H} {done wr : List (List P)}, MonX (fun y : (S × H) × List (List P) => y.1.2) h (passL cl tbl l us s h done wr)
  | [], us, s, h, done, wr => MonX.ret (Mono.refl _)
  | i :: l, us, s, h, done, wr => by
    rintro ⟨⟨s', h'⟩, wr'⟩ hx
    obtain ⟨u, us', k, s1, h1, w1, t1, _, e1, e2, e3⟩ := passL_cons.1 hx
    obtain ⟨h2, tr, d1, d2, d3, d4, d5⟩ := insM_eq.1 e2
    subst d5
    subst d3
    exact (mon_over (seen_get e1) (mon_ins hcl i _ d1) d4).trans (mon_passL hcl _ e3)
theorem mon_drwL (hcl : MonCall cl) {l : List I} {us : List (Option (List Nat))} {s : S} {h : H} : MonX Prod.snd h (drwL cl l us s h) := by
  cases us with
  | nil => exact mon_insL hcl
  | cons u us =>
    rintro ⟨s', h'⟩ hx
    obtain ⟨⟨s1, h1⟩, wr, e1, e2⟩ := bnd2_eq.1 (show bnd2 (passL cl [] l (u :: us) s h [] []) (fun sh wr => Bool.rec (motive := fun _ => SH)
      (bnd2 (passL cl wr l (u :: us) s h [] []) (fun sh wr' => guardB (sameP wr wr') (some sh))) (some sh) (allNil wr)) = some (s', h') from hx)
    cases hn : allNil wr with
    | true => rw [hn] at e2; cases e2; exact mon_passL hcl _ e1
    | false =>
      rw [hn] at e2
      obtain ⟨sh, wr', e3, e4⟩ := bnd2_eq.1 (show bnd2 (passL cl wr l (u :: us) s h [] []) (fun sh wr' => guardB (sameP wr wr') (some sh)) = some (s', h') from e2)
      obtain ⟨_, e5⟩ := guardB_eq.1 e4
      cases e5
      exact mon_passL hcl _ e3

/-! runs -/
abbrev pr3 (y : X × S × H) : H := y.2.2
theorem mon_thenC {r : RunC} (hr : ∀ c s h, MonX pr3 h (r c s h)) {b : C} {x : X} : MonX pr3 h (thenC r b x s h) := by
  cases x with
  | nrm => exact hr b s h
  | exit id => exact MonX.ret (Mono.refl _)
  | ret => exact MonX.ret (Mono.refl _)
theorem mon_runC (hcl : MonCall cl) : ∀ n c s h, MonX pr3 h (runC cl n c s h)
  | 0, c, s, h => MonX.none
  | n + 1, c, s, h => by
    have ih := mon_runC hcl n
    have h0 : ∀ {x : X} {s : S}, MonX pr3 h (some (x, s, h)) := fun {x s} => MonX.ret (Mono.refl _)
    cases c with
    | skip => exact h0
    | ops l => show MonX pr3 h (cOps cl s h l); unfold cOps; refine MonX.bnd2 (mon_insL hcl) fun s h _ => ?_; exact MonX.ret (pr := pr3) (Mono.refl h)
    | drw l us => show MonX pr3 h (cDrw cl s h l us); unfold cDrw; refine MonX.bnd2 (mon_drwL hcl) fun s h _ => ?_; exact MonX.ret (pr := pr3) (Mono.refl h)
    | seq a b => exact MonX.bnd3 (ih a s h) fun x s h _ => mon_thenC ih
    | cond c a b => exact MonX.bnd fun v _ => MonX.onBool (ih a s h) (ih b s h)
    | blk id b =>
      refine MonX.bnd3 (ih b s h) fun x s h _ => ?_
      cases x with
      | nrm => exact MonX.ret (Mono.refl _)
      | exit j =>
        show MonX pr3 h (Bool.rec (motive := fun _ => RC) (some (.exit j, s, h)) (some (.nrm, s, h)) (Nat.beq j id))
        cases Nat.beq j id <;> exact MonX.ret (Mono.refl _)
      | ret => exact MonX.ret (Mono.refl _)
    | loop b => exact MonX.bnd3 (ih b s h) fun x s h _ => mon_thenC ih
    | exit id => exact h0
    | ret => exact h0
    | rngf f ps asg body =>
      refine MonX.bnd fun fv _ => MonX.onW fun f => MonX.guardB (MonX.new (MonX.from_ (Mono.new _ _) (MonX.bnd2 (hcl _ _ _) fun u h1 _ => MonX.atLp fun _ _ _ _ j busy ho => MonX.guardB (MonX.put ?_))))
      refine MonX.from_ (Mono.put .dead ho rfl) ?_
      cases j with
      | none => exact MonX.ret (Mono.refl _)
      | some j => exact ih j s _
    | mfor pre m it nx ok te sl kl id b l c =>
      show MonX pr3 h (cMfor cl (runC cl n) s h pre m it te sl kl b l c)
      unfold cMfor
      refine MonX.bnd2 (mon_insL hcl) fun s h1 _ => MonX.bnd fun mv _ => MonX.onW fun mw => ?_
      have key : ∀ es, MonX pr3 h1 (h1.new .dead (fun p h => bnd (eraL sl s) (fun s => bnd (s.set (some (.w (.it p))) it) (fun s => guardB (allE (rndE cl (runC cl n) te kl b l c s h) es) (some (X.nrm, s, h)))))) := fun es => by
        refine MonX.new ?_
        refine MonX.bnd fun s _ => MonX.bnd fun s _ => MonX.guardB ?_
        exact MonX.ret (pr := pr3) (Mono.new h1 .dead)
      cases mw with
      | nilm => exact key []
      | map r => exact MonX.atMap fun es c _ => MonX.guardB (MonX.guardB (key es))
      | _ => exact MonX.none
    | bad => exact MonX.none
theorem mon_tupR {vs : List U} : MonR h (tupR vs h) := by
  match vs with
  | [] => exact MonX.ret (Mono.refl _)
  | [v] => cases v <;> exact MonX.ret (Mono.refl _)
  | _ :: _ :: _ => exact MonX.ret (Mono.refl _)
theorem mon_okX {x : X} {r : R} (hr : MonR h r) : MonR h (okX x r) := by
  cases x with
  | nrm => exact hr
  | exit _ => exact MonX.none
  | ret => exact hr
theorem mon_callFn {r : RunC} (hr : ∀ c s h, MonX pr3 h (r c s h)) {fd : F} {args : List V} : MonR h (callFn r fd args h) := by
  obtain ⟨res, body⟩ := fd
  exact MonX.bnd fun s _ => MonX.bnd3 (hr body s h) fun x s h _ => mon_okX (MonX.bnd fun vs _ => mon_tupR)
theorem mon_callY {r : RunC} (hr : ∀ c s h, MonX pr3 h (r c s h)) {l : P} {args : List V} : MonR h (callY r l args h) := by
  refine MonX.atLp fun sl ps asg body _ _ _ => MonX.bnd fun s _ => MonX.bnd3 (hr asg s h) fun x s h _ => ?_
  cases x with
  | nrm =>
    refine MonX.atLp fun sl ps asg body' j busy ho => MonX.guardB (MonX.guardB (MonX.put (MonX.from_ (Mono.put _ ho rfl) (MonX.bnd3 (hr body s _) fun x _ h _ => ?_))))
    exact MonX.atLp fun sl ps asg body' _ _ ho => MonX.put (MonX.boolK (MonX.ret (Mono.put _ ho rfl)))
  | exit _ => exact MonX.none
  | ret => exact MonX.none
theorem mon_callL {pr : P → Option F} (m : Nat) : ∀ n, MonCall (callL pr m n)
  | 0 => fun f args h => MonX.none
  | n + 1 => fun f args h => by
    have hr := mon_runC (mon_callL (pr := pr) m n) m
    refine MonX.onW fun x => ?_
    cases x with
    | fnc k => exact MonX.bnd fun fd _ => mon_callFn hr
    | fn k b =>
      refine MonX.bnd fun fd _ => MonX.bnd fun o _ => ?_
      cases o with
      | caps fs cs => exact MonX.bnd fun fs _ => MonX.bnd fun cs _ => MonX.bnd fun args _ => MonX.bnd fun args _ => mon_callFn hr
      | _ => exact MonX.none
    | yld l => exact mon_callY hr
    | _ => exact MonX.none
end
end Go.Am
namespace Go.Am
set_option autoImplicit false
set_option linter.unusedSimpArgs false
set_option linter.unusedVariables false
/-! code that writes no slot beyond a list -/
def inS (sl : List P) (d : Option P) : Bool := match d with | none => true | some d => sl.any fun q => decide (q = d)
def frL (sl : List P) (l : List I) : Bool := l.all fun i => inS sl i.d
def frC (sl : List P) : C → Bool
  | .skip => true
  | .ops l => frL sl l
  | .drw l _ => frL sl l
  | .seq a b => frC sl a && frC sl b
  | .cond _ a b => frC sl a && frC sl b
  | .blk _ b => frC sl b
  | .loop b => frC sl b
  | .exit _ => true
  | .ret => true
  | .rngf _ _ _ _ => false
  | .mfor _ _ _ _ _ _ _ _ _ _ _ _ => false
  | .bad => true
section
variable {cl : Call} {sl : List P}
theorem inS_mem {d : P} (h : inS sl (some d) = true) : d ∈ sl := by
  obtain ⟨q, h1, h2⟩ := List.any_eq_true.1 h
  have := of_decide_eq_true h2
  subst this; exact h1
theorem setD_get {s s' : S} {h h' : H} {d : Option P} {v : V} (hx : setD s h d v = some (s', h')) (hd : inS sl d = true) {p : P} (hp : p ∉ sl) : s'.get p = s.get p := by
  cases d with
  | none => cases hx; rfl
  | some q =>
    change bnd (s.set (some v) q) (fun s => some (s, h)) = some (s', h') at hx
    rw [Tr.set_eq] at hx; cases hx
    exact Tr.get_put_ne _ (fun e => by subst e; exact hp (inS_mem hd)) _
theorem ins_get {s s' : S} {h h' : H} {i : I} (hx : ins cl s h i = some (s', h')) (hd : inS sl i.d = true) {p : P} (hp : p ∉ sl) : s'.get p = s.get p := by
  obtain ⟨v, _, h2⟩ := ins_insV.1 hx
  exact setD_get h2 hd hp
theorem insL_get : ∀ {l : List I} {s s' : S} {h h' : H}, insL cl l s h = some (s', h') → frL sl l = true → ∀ {p : P}, p ∉ sl → s'.get p = s.get p
  | [], s, s', h, h', hx, _, p, _ => by cases hx; rfl
  | i :: l, s, s', h, h', hx, hf, p, hp => by
    obtain ⟨s1, h1, k1, k2⟩ := bnd2_eq.1 (show bnd2 (ins cl s h i) (insL cl l) = some (s', h') from hx)
    simp only [frL, List.all_cons, Bool.and_eq_true] at hf
    rw [insL_get k2 hf.2 hp, ins_get k1 hf.1 hp]
theorem passL_get {tbl : List (List P)} : ∀ {l : List I} {us : List (Option (List Nat))} {s s' : S} {h h' : H} {done wr wr' : List (List P)}, passL cl tbl l us s h done wr = some ((s', h'), wr') → frL sl l = true → ∀ {p : P}, p ∉ sl → s'.get p = s.get p
  | [], us, s, s', h, h', done, wr, wr', hx, _, p, _ => by cases hx; rfl
  | i :: l, us, s, s', h, h', done, wr, wr', hx, hf, p, hp => by
    obtain ⟨u, us', k, s1, h1, w1, t1, _, e1, e2, e3⟩ := passL_cons.1 hx
    obtain ⟨h2, tr, d1, d2, d3, d4, d5⟩ := insM_eq.1 e2
    simp only [frL, List.all_cons, Bool.and_eq_true] at hf
    rw [passL_get e3 hf.2 hp, ins_get d1 hf.1 hp]
theorem drwL_get {l : List I} {us : List (Option (List Nat))} {s s' : S} {h h' : H} (hx : drwL cl l us s h = some (s', h')) (hf : frL sl l = true) {p : P} (hp : p ∉ sl) : s'.get p = s.get p := by
  cases us with
  | nil => exact insL_get hx hf hp
  | cons u us =>
    obtain ⟨⟨s1, h1⟩, wr, e1, e2⟩ := bnd2_eq.1 (show bnd2 (passL cl [] l (u :: us) s h [] []) (fun sh wr => Bool.rec (motive := fun _ => SH)
      (bnd2 (passL cl wr l (u :: us) s h [] []) (fun sh wr' => guardB (sameP wr wr') (some sh))) (some sh) (allNil wr)) = some (s', h') from hx)
    cases hn : allNil wr with
    | true => rw [hn] at e2; cases e2; exact passL_get e1 hf hp
    | false =>
      rw [hn] at e2
      obtain ⟨sh, wr', e3, e4⟩ := bnd2_eq.1 (show bnd2 (passL cl wr l (u :: us) s h [] []) (fun sh wr' => guardB (sameP wr wr') (some sh)) = some (s', h') from e2)
      obtain ⟨_, e5⟩ := guardB_eq.1 e4
      cases e5
      exact passL_get e3 hf hp
theorem bnd3_eq' {β : Type} {r : RC} {f : X → S → H → Option β} {y : β} : bnd3 r f = some y ↔ ∃ x s h, r = some (x, s, h) ∧ f x s h = some y := by
  rw [bnd3, bnd2_eq]
  constructor
  · rintro ⟨x, ⟨s, h⟩, h1, h2⟩; exact ⟨x, s, h, h1, h2⟩
  · rintro ⟨x, s, h, h1, h2⟩; exact ⟨x, (s, h), h1, h2⟩
theorem runC_get : ∀ (n : Nat) {c : C} {s s' : S} {h h' : H} {x : X}, runC cl n c s h = some (x, s', h') → frC sl c = true → ∀ {p : P}, p ∉ sl → s'.get p = s.get p
  | 0, c, s, s', h, h', x, hx, _, p, _ => by cases hx
  | n + 1, c, s, s', h, h', x, hx, hf, p, hp => by
    have thn : ∀ {a b : C} {s s' : S} {h h' : H} {x : X}, bnd3 (runC cl n a s h) (thenC (runC cl n) b) = some (x, s', h') → frC sl a = true → frC sl b = true → s'.get p = s.get p := by
      intro a b s s' h h' x hx ha hb
      obtain ⟨x1, s1, h1, k1, k2⟩ := bnd3_eq'.1 hx
      have e1 := runC_get n k1 ha hp
      cases x1 with
      | nrm => rw [← e1]; exact runC_get n (show runC cl n b s1 h1 = some (x, s', h') from k2) hb hp
      | exit id => cases k2; exact e1
      | ret => cases k2; exact e1
    cases c with
    | skip => cases hx; rfl
    | ops l =>
      obtain ⟨s1, h1, k1, k2⟩ := bnd2_eq.1 (show bnd2 (insL cl l s h) (fun s h => some (X.nrm, s, h)) = some (x, s', h') from hx)
      cases k2; exact insL_get k1 hf hp
    | drw l us =>
      obtain ⟨s1, h1, k1, k2⟩ := bnd2_eq.1 (show bnd2 (drwL cl l us s h) (fun s h => some (X.nrm, s, h)) = some (x, s', h') from hx)
      cases k2; exact drwL_get k1 hf hp
    | seq a b =>
      simp only [frC, Bool.and_eq_true] at hf
      exact thn hx hf.1 hf.2
    | cond c a b =>
      simp only [frC, Bool.and_eq_true] at hf
      obtain ⟨v, g1, g2⟩ := bnd_eq.1 (show bnd (opd s c) (fun v => onBool v (runC cl n a s h) (runC cl n b s h)) = some (x, s', h') from hx)
      rcases onBool_eq.1 g2 with ⟨_, g3⟩ | ⟨_, g3⟩
      · exact runC_get n g3 hf.1 hp
      · exact runC_get n g3 hf.2 hp
    | blk id b =>
      obtain ⟨x1, s1, h1, k1, k2⟩ := bnd3_eq'.1 (show bnd3 (runC cl n b s h) (outB id) = some (x, s', h') from hx)
      have e1 := runC_get n k1 hf hp
      cases x1 with
      | nrm => cases k2; exact e1
      | exit j =>
        change Bool.rec (motive := fun _ => RC) (some (.exit j, s1, h1)) (some (.nrm, s1, h1)) (Nat.beq j id) = some (x, s', h') at k2
        cases hb : Nat.beq j id <;> (rw [hb] at k2; cases k2; exact e1)
      | ret => cases k2; exact e1
    | loop b => exact thn (a := b) (b := .loop b) hx hf hf
    | exit id => cases hx; rfl
    | ret => cases hx; rfl
    | rngf _ _ _ _ => cases hf
    | mfor _ _ _ _ _ _ _ _ _ _ _ _ => cases hf
    | bad => cases hx
end
end Go.Am
namespace Go.Am
set_option autoImplicit false
set_option linter.unusedSimpArgs false
set_option linter.unusedVariables false

/-- an empty block for the rounds' deferred calls: the mark of a range over a function -/
def mark (r : Nat) : Deferred := { target := .collected r, args := #[] }
/-- the marks among the deferred calls: blocks of the call's own that nothing names -/
def Marks (B : Nat) (φ : Phi) (w : World) (ds : List Deferred) : Prop :=
  ∃ rs : List Nat, ds = rs.map mark ∧ rs.Nodup ∧ ∀ r ∈ rs, B ≤ r ∧ w.heap[r]? = some (.deferred (some [])) ∧ ∀ b i, φ b = some i → i.blk ≠ some r
section
variable {cr : CR} {B B0 : Nat} {φ φ' : Phi} {h h' : H} {w w' : World} {p : Program} {s s' : S} {a : Act} {ds : List Deferred}
theorem Marks.nil : Marks B φ w [] := ⟨[], rfl, List.nodup_nil, by simp⟩
theorem Marks.ext (m : Marks B φ w ds) (sim : Sim cr B0 φ h w) (e : Ext φ h w φ' h' w') : Marks B φ' w' ds := by
  obtain ⟨rs, h1, h2, h3⟩ := m
  refine ⟨rs, h1, h2, fun r hr => ?_⟩
  obtain ⟨k1, k2, k3⟩ := h3 r hr
  have hlt : r < w.heap.size := (Array.getElem?_eq_some_iff.1 k2).1
  obtain ⟨l, n, a1, a2, a3, a4, a5, a6, a7, a8⟩ := e.log
  refine ⟨k1, by rw [a3 r hlt fun b _ i hb => k3 b i hb]; exact k2, fun b i hb hc => ?_⟩
  rcases Nat.lt_or_ge b.nat h.sz.nat with hx | hx
  · rw [e.old b hx] at hb; exact k3 b i hb hc
  · rcases a7 b i r hx hb hc with k | ⟨b0, _, i0, q1, q2⟩
    · omega
    · exact k3 b0 i0 q1 q2

def X.ex : X → Exit
  | .nrm => .normal
  | .exit id => .exit id
  | .ret => .ret
/-- what a piece of code owes -/
def Post (cr : CR) (N B0 Bm : Nat) (φ : Phi) (h : H) (w : World) (x : X) (s' : S) (h' : H) (e : Exit) (a' : Act) (w' : World) : Prop :=
  e = x.ex ∧ ∃ φ', Sim cr B0 φ' h' w' ∧ Ext φ h w φ' h' w' ∧ RelS φ' s' a'.tmps ∧ N ≤ a'.tmps.size ∧ Marks Bm φ' w' a'.defers

theorem least {J : Nat → Prop} : ∀ j, J j → ∃ m, J m ∧ ∀ k, J k → m ≤ k := by
  intro j
  induction j using Nat.strongRecOn with
  | _ j ih =>
    intro hj
    by_cases hx : ∃ k, k < j ∧ J k
    · obtain ⟨k, h1, h2⟩ := hx; exact ih k h1 h2
    · exact ⟨j, hj, fun k hk => by rcases Nat.lt_or_ge k j with h | h; exact absurd ⟨k, h, hk⟩ hx; exact h⟩
/-- a loop whose rounds use up fuel -/
theorem wpIn_loop_fuel {F : Fence} {n : Nat} {Q : Exit → Act → World → Prop} {c : Code} (J : Nat → Act → World → Prop) {j : Nat} (h0 : J j a w)
    (round : ∀ j a w, J j a w → c.wpIn F n p (Exit.then (fun a' w' => ∃ j', j' < j ∧ J j' a' w') Q) a w) : (Code.loop c).wpIn F n p Q a w := by
  let M : Act → World → Nat := fun a w => open Classical in if h : ∃ j, J j a w then Classical.choose (least (J := fun j => J j a w) _ (Classical.choose_spec h)) else 0
  have hM : ∀ a w j, J j a w → J (M a w) a w ∧ M a w ≤ j := by
    intro a w j hj
    have h : ∃ j, J j a w := ⟨j, hj⟩
    have e : M a w = Classical.choose (least (J := fun j => J j a w) _ (Classical.choose_spec h)) := by simp only [M, h, dif_pos]
    have := Classical.choose_spec (least (J := fun j => J j a w) _ (Classical.choose_spec h))
    rw [e]
    exact ⟨this.1, this.2 j hj⟩
  refine wpIn_loop (fun a w => ∃ j, J j a w) M ⟨j, h0⟩ fun a w ⟨j, hj⟩ => ?_
  obtain ⟨h1, h2⟩ := hM a w j hj
  refine wpIn_mono (round _ a w h1) fun e a' w' hq => ?_
  cases e <;> first | exact hq | skip
  obtain ⟨j', k1, k2⟩ := hq
  exact ⟨⟨j', k2⟩, Nat.lt_of_le_of_lt (hM a' w' j' k2).2 k1⟩

/-- the print of a range over a map -/
def okMf (p : Program) (N : Nat) (opsA opsN opsE : Array Oper) (t : Tmp) (pre : List I) (m : Opd) (it nx ok te : P) (sl kl : List P) (l : List I) (c : C) : Bool :=
  (okIs p N opsA (opsA.toList.take pre.length) pre && Nat.beq opsA.size (pre.length + 1) &&
    (match opsA[pre.length]? with
     | some o => o.guard.isNone && okDst N o.dst (some it) && (match o.op with | .range T y => okO y m && (match p.underlying T with | some (.map _ _) => true | _ => false) | _ => false)
     | none => false)) &&
  ((match opsN.toList with
    | [o1, o2] => o1.guard.isNone && o2.guard.isNone && okDst N o1.dst (some nx) && okDst N o2.dst (some ok) &&
        (match o1.op with | .next (.tmp a) false => Nat.beq a it.nat | _ => false) && (match o2.op with | .extract (.tmp a) 0 => Nat.beq a nx.nat | _ => false)
    | _ => false) && Nat.beq t ok.nat) &&
  (match opsE.toList with
   | o :: rest => o.guard.isNone && okDst N o.dst (some te) && (match o.op with | .entry (.tmp a) => Nat.beq a it.nat | _ => false) && okIs p N opsE rest l
   | [] => false) &&
  (inS sl (some nx) && inS sl (some ok) && inS sl (some te) && frL (sl ++ kl) l && frC (sl ++ kl) c && !(inS (sl ++ kl) (some it)))
/-- the print of code; rd: within a round -/
def okC (okD : Array Oper → List I → List (Option (List Nat)) → Bool) (p : Program) (N : Nat) (rd : Bool) : Code → C → Bool
  | .skip, .skip => true
  | .label _, .skip => true
  | .region _ ops false, .ops l => okIs p N ops ops.toList l
  | .region _ ops true, .drw l us => okIs p N ops ops.toList l && okD ops l us
  | .seq a b, .seq a' b' => okC okD p N rd a a' && okC okD p N rd b b'
  | .cond c a b, .cond c' a' b' => okO c c' && okC okD p N rd a a' && okC okD p N rd b b'
  | .block id b, .blk id' b' => Nat.beq id id' && okC okD p N rd b b'
  | .loop b, .loop b' => okC okD p N rd b b'
  | .exit id, .exit id' => Nat.beq id id'
  | .ret, .ret => true
  | .scope b, .seq b' .skip => !rd && okC okD p N rd b b'
  | .rangeFunc f ps asg body, .rngf f' ps' asg' body' => !rd && okO f f' && decide (ps.toList = ps'.map P.nat) && ps'.all (fun q => Nat.blt q.nat N) && okC okD p N true asg asg' && okC okD p N true body body'
  | .seq (.region _ opsA false) (.block id1 (.loop (.seq (.region _ opsN false) (.seq (.cond (.tmp t) .skip (.exit id2)) (.block b1 (.seq (.region _ opsE false) R)))))), .mfor pre m it nx ok te sl kl id b l c =>
      okMf p N opsA opsN opsE t pre m it nx ok te sl kl l c && Nat.beq id1 id && Nat.beq id2 id && Nat.beq b1 b && okC okD p N rd R c
  | _, .bad => true
  | _, _ => false

theorem bnd3_eq {β : Type} {r : RC} {f : X → S → H → Option β} {y : β} : bnd3 r f = some y ↔ ∃ x s h, r = some (x, s, h) ∧ f x s h = some y := by
  rw [bnd3, bnd2_eq]
  constructor
  · rintro ⟨x, ⟨s, h⟩, h1, h2⟩; exact ⟨x, s, h, h1, h2⟩
  · rintro ⟨x, s, h, h1, h2⟩; exact ⟨x, (s, h), h1, h2⟩
theorem Post.of_ext {N Bm : Nat} {φ1 : Phi} {h1 : H} {w1 : World} {x : X} {e : Exit} {a' : Act} (k : Ext φ h w φ1 h1 w1) (q : Post cr N B0 Bm φ1 h1 w1 x s' h' e a' w') : Post cr N B0 Bm φ h w x s' h' e a' w' := by
  obtain ⟨q1, φ', q2, q3, q4⟩ := q
  exact ⟨q1, φ', q2, k.trans q3, q4⟩

/-- what is owed for a region that draws its order -/
def DrawSound (cr : CR) (p : Program) (okD : Array Oper → List I → List (Option (List Nat)) → Bool) : Prop :=
  ∀ {F : Fence} {cl : Call} {n N B0 : Nat} {ops : Array Oper} {l : List I} {us : List (Option (List Nat))} {φ : Phi} {h h' : H} {w : World} {s s' : S} {a : Act} {Q : Exit → Act → World → Prop},
    Wide F → CallSound cr p cl → MonCall cl → okIs p N ops ops.toList l = true → okD ops l us = true → N ≤ a.tmps.size → RelS φ s a.tmps → Sim cr B0 φ h w → drwL cl l us s h = some (s', h') →
    (∀ a' w' φ', Sim cr B0 φ' h' w' → Ext φ h w φ' h' w' → RelS φ' s' a'.tmps → N ≤ a'.tmps.size → a'.defers = a.defers → Q .normal a' w') →
    ∀ t, wpOpsIn F n p ops Q (Region.schedule (p.follows .mixedOrders) ops t) a w

def RunOk (cr : CR) (p : Program) (okD : Array Oper → List I → List (Option (List Nat)) → Bool) (cl : Call) (m : Nat) : Prop :=
  ∀ {F : Fence} {n N B0 Bm : Nat} {rd : Bool} {c : C} {code : Code} {x : X} {φ : Phi} {h h' : H} {w : World} {s s' : S} {a : Act},
    Wide F → runC cl m c s h = some (x, s', h') → okC okD p N rd code c = true → (rd = false → F.round = none) → Sim cr B0 φ h w → RelS φ s a.tmps → N ≤ a.tmps.size → Marks Bm φ w a.defers → Bm ≤ w.heap.size →
    code.wpIn F n p (Post cr N B0 Bm φ h w x s' h') a w

theorem run_seq {okD : Array Oper → List I → List (Option (List Nat)) → Bool} {cl : Call} {m : Nat} (ih : RunOk cr p okD cl m) {F : Fence} {n N B0 Bm : Nat} {rd : Bool} {c1 c2 : C} {b1 b2 : Code} {x : X} {φ : Phi} {h h' : H} {w : World} {s s' : S} {a : Act}
    (hF : Wide F) (hx : cSeq (runC cl m) s h c1 c2 = some (x, s', h')) (k1 : okC okD p N rd b1 c1 = true) (k2 : okC okD p N rd b2 c2 = true) (hr : rd = false → F.round = none) (sim : Sim cr B0 φ h w) (hs : RelS φ s a.tmps)
    (hN : N ≤ a.tmps.size) (hm : Marks Bm φ w a.defers) (hB : Bm ≤ w.heap.size) : (Code.seq b1 b2).wpIn F n p (Post cr N B0 Bm φ h w x s' h') a w := by
  obtain ⟨x1, s1, h1, g1, g2⟩ := bnd3_eq.1 hx
  refine wpIn_seq (wpIn_mono (ih hF g1 k1 hr sim hs hN hm hB) ?_)
  rintro e a' w' ⟨rfl, φ', q1, q2, q3, q4, q5⟩
  cases x1 with
  | nrm => exact wpIn_mono (ih hF (show runC cl m c2 s1 h1 = some (x, s', h') from g2) k2 hr q1 q3 q4 q5 (Nat.le_trans hB q2.size)) fun e a w q => q.of_ext q2
  | exit id => cases g2; exact ⟨rfl, φ', q1, q2, q3, q4, q5⟩
  | ret => cases g2; exact ⟨rfl, φ', q1, q2, q3, q4, q5⟩
theorem run_blk {okD : Array Oper → List I → List (Option (List Nat)) → Bool} {cl : Call} {m : Nat} (ih : RunOk cr p okD cl m) {F : Fence} {n N B0 Bm id : Nat} {rd : Bool} {c1 : C} {b1 : Code} {x : X} {φ : Phi} {h h' : H} {w : World} {s s' : S} {a : Act}
    (hF : Wide F) (hx : cBlk (runC cl m) s h id c1 = some (x, s', h')) (k1 : okC okD p N rd b1 c1 = true) (hr : rd = false → F.round = none) (sim : Sim cr B0 φ h w) (hs : RelS φ s a.tmps)
    (hN : N ≤ a.tmps.size) (hm : Marks Bm φ w a.defers) (hB : Bm ≤ w.heap.size) : (Code.block id b1).wpIn F n p (Post cr N B0 Bm φ h w x s' h') a w := by
  obtain ⟨x1, s1, h1, g1, g2⟩ := bnd3_eq.1 hx
  refine wpIn_block (wpIn_mono (ih hF g1 k1 hr sim hs hN hm hB) ?_)
  rintro e a' w' ⟨rfl, φ', q⟩
  cases x1 with
  | nrm => cases g2; exact ⟨rfl, φ', q⟩
  | exit j =>
    change Bool.rec (motive := fun _ => RC) (some (.exit j, s1, h1)) (some (.nrm, s1, h1)) (Nat.beq j id) = some (x, s', h') at g2
    simp only [X.ex, Exit.inBlock]
    cases hb : Nat.beq j id with
    | true => rw [hb] at g2; cases g2; rw [Nat.beq_eq] at hb; rw [if_pos hb]; exact ⟨rfl, φ', q⟩
    | false => rw [hb] at g2; cases g2; rw [if_neg (fun e => by rw [e] at hb; simp at hb)]; exact ⟨rfl, φ', q⟩
  | ret => cases g2; exact ⟨rfl, φ', q⟩
theorem run_loop {okD : Array Oper → List I → List (Option (List Nat)) → Bool} {cl : Call} {m : Nat} (ih : ∀ j, j ≤ m → RunOk cr p okD cl j) {F : Fence} {n N B0 Bm : Nat} {rd : Bool} {c1 : C} {b1 : Code} {x : X} {φ : Phi} {h h' : H} {w : World} {s s' : S} {a : Act}
    (hF : Wide F) (hx : runC cl (m + 1) (.loop c1) s h = some (x, s', h')) (k1 : okC okD p N rd b1 c1 = true) (hr : rd = false → F.round = none) (sim : Sim cr B0 φ h w) (hs : RelS φ s a.tmps)
    (hN : N ≤ a.tmps.size) (hm : Marks Bm φ w a.defers) (hB : Bm ≤ w.heap.size) : (Code.loop b1).wpIn F n p (Post cr N B0 Bm φ h w x s' h') a w := by
  refine wpIn_loop_fuel (fun j a1 w1 => j ≤ m + 1 ∧ ∃ φ1 h1 s1, runC cl j (.loop c1) s1 h1 = some (x, s', h') ∧ Sim cr B0 φ1 h1 w1 ∧ Ext φ h w φ1 h1 w1 ∧ RelS φ1 s1 a1.tmps ∧ N ≤ a1.tmps.size ∧ Marks Bm φ1 w1 a1.defers)
    (j := m + 1) ⟨Nat.le_refl _, φ, h, s, hx, sim, Ext.refl sim, hs, hN, hm⟩ ?_
  rintro j a1 w1 ⟨hj, φ1, h1, s1, g1, g2, g3, g4, g5, g6⟩
  cases j with
  | zero => cases g1
  | succ j =>
    obtain ⟨x2, s2, h2, e1, e2⟩ := bnd3_eq.1 (show bnd3 (runC cl j c1 s1 h1) (thenC (runC cl j) (.loop c1)) = some (x, s', h') from g1)
    refine wpIn_mono (ih j (by omega) hF e1 k1 hr g2 g4 g5 g6 (Nat.le_trans hB g3.size)) ?_
    rintro e a' w' ⟨rfl, φ', q1, q2, q3, q4, q5⟩
    cases x2 with
    | nrm => exact ⟨j, by omega, by omega, φ', h2, s2, e2, q1, g3.trans q2, q3, q4, q5⟩
    | exit id => cases e2; exact ⟨rfl, φ', q1, g3.trans q2, q3, q4, q5⟩
    | ret => cases e2; exact ⟨rfl, φ', q1, g3.trans q2, q3, q4, q5⟩
end
end Go.Am
namespace Go.Am
set_option autoImplicit false
set_option linter.unusedSimpArgs false
set_option linter.unusedVariables false
section
variable {B B0 : Nat} {φ φ' : Phi} {h h' : H} {w w' : World} {p : Program} {s s' : S} {a : Act} {ds : List Deferred}
  {okD : Array Oper → List I → List (Option (List Nat)) → Bool} {cl : Call} {m : Nat}

/-- the relation of code and its print that the loops' records bear -/
def crOf (okD : Array Oper → List I → List (Option (List Nat)) → Bool) (p : Program) : CR := fun N a b a' b' => ∃ N0, N0 ≤ N ∧ okC okD p N0 true a a' = true ∧ okC okD p N0 true b b' = true

theorem run_rngf (hcl : CallSound (crOf okD p) p cl) (ih : RunOk (crOf okD p) p okD cl m) {F : Fence} {n N B0 Bm : Nat} {f : Opd} {ps : List P} {asg body : C} {g : Operand} {ps' : Array Tmp} {asg' body' : Code} {x : X} {φ : Phi} {h h' : H} {w : World} {s s' : S} {a : Act}
    (hF : Wide F) (hx : cRngf cl (runC cl m) s h f ps asg body = some (x, s', h')) (k1 : okO g f = true) (k2 : ps'.toList = ps.map P.nat) (k3 : ∀ q ∈ ps, q.nat < N) (k4 : okC okD p N true asg' asg = true) (k5 : okC okD p N true body' body = true)
    (hr : F.round = none) (sim : Sim (crOf okD p) B0 φ h w) (hs : RelS φ s a.tmps)
    (hN : N ≤ a.tmps.size) (hm : Marks Bm φ w a.defers) (hB : Bm ≤ w.heap.size) : (Code.rangeFunc g ps' asg' body').wpIn F n p (Post (crOf okD p) N B0 Bm φ h w x s' h') a w := by
  obtain ⟨v1, g1, g2⟩ := bnd_eq.1 hx
  obtain ⟨f0, rfl, g3⟩ := onW_eq.1 g2
  obtain ⟨g4, g5⟩ := guardB_eq.1 g3
  rw [H.new_eq] at g5
  obtain ⟨u, h2, g6, g7⟩ := bnd2_eq.1 g5
  obtain ⟨ob, g8, g9⟩ := bnd_eq.1 g7
  have hfv := okO_rel hs k1 g1
  refine wpIn_rangeFunc fun fn _ => ?_
  let rec0 : Loop := { state := .ready, pending := none, fn, tmps := a.tmps, params := ps', assign := asg', body := body', defers := w.heap.size }
  generalize hw1 : (w.alloc (.deferred (some []))).alloc (.loop rec0) = w1
  let i0 : Inf := .obj (w.heap.size + 1)
  have hwa : (w.alloc (.deferred (some []))).heap.size = w.heap.size + 1 := by simp
  have hold : ∀ c, c < w.heap.size → (w.alloc (.deferred (some []))).heap[c]? = w.heap[c]? := fun c hc => heap_alloc_old w _ hc
  have sa := sim.world (w' := w.alloc (.deferred (some []))) (by omega) hold
  have xa := Ext.world sim (w' := w.alloc (.deferred (some []))) (by omega) hold rfl rfl rfl
  obtain ⟨s1, x1⟩ := sa.alloc (.lp s ps asg body none false) (.loop rec0) i0 (by simp [i0, Inf.blk, hwa]) ⟨rec0, by rw [← hwa]; exact heap_alloc_new (w.alloc (.deferred (some []))) _, k2, hs.mono (sa.le_upd i0), ⟨N, hN, k4, k5⟩, fun _ => rfl, trivial, fun q hq => Nat.lt_of_lt_of_le (k3 q hq) hN⟩
  rw [hw1] at s1 x1
  have x01 := xa.trans x1
  have hL : (φ.upd h.sz i0) h.sz = some i0 := Phi.upd_same _ _ _
  have hle := sa.le_upd i0
  have hmk : Marks Bm (φ.upd h.sz i0) w1 (mark w.heap.size :: a.defers) := by
    obtain ⟨rs, e1, e2, e3⟩ := hm.ext sim x01
    refine ⟨w.heap.size :: rs, by rw [e1]; rfl, List.nodup_cons.2 ⟨fun hin => ?_, e2⟩, fun r hr => ?_⟩
    · obtain ⟨rs', d1, d2, d3⟩ := hm
      have : rs' = rs := by
        have hinj : ∀ l l' : List Nat, l.map mark = l'.map mark → l = l' := by
          intro l
          induction l with
          | nil => intro l' he; cases l' <;> simp_all
          | cons y l ihl => intro l' he; cases l' with
            | nil => simp at he
            | cons z l' => simp only [List.map_cons, List.cons.injEq, mark, Deferred.mk.injEq, Target.collected.injEq] at he; rw [he.1.1, ihl l' he.2]
        exact hinj _ _ (d1.symm.trans e1)
      subst this
      have := (Array.getElem?_eq_some_iff.1 (d3 _ hin).2.1).1
      omega
    · rcases List.mem_cons.1 hr with rfl | hr
      · refine ⟨hB, ?_, fun b i hb hi => ?_⟩
        · rw [← hw1]
          rw [heap_alloc_old (w.alloc (.deferred (some []))) _ (by omega)]; exact heap_alloc_new w _
        · by_cases e : b = h.sz
          · subst e; rw [hL] at hb; cases hb; simp [i0, Inf.blk] at hi
          · rw [Phi.upd_ne _ _ e] at hb
            have := sim.dom b i _ hb hi
            omega
      · exact e3 r hr
  have hcall := hcl B0 _ _ w1 (.w f0) (a.eval g) [.w (.yld h.sz)] [.func (.yield (w.heap.size + 1)) #[] #[]] u h2 g6 (RelV.mono hle hfv) ⟨⟨_, hL, rfl⟩, trivial⟩ s1
  rcases hcall with ⟨f1, fs1, caps, fn1, e1, e2, e3, e4, e5⟩ | ⟨l, r, e1, _⟩
  · have e3' : fn1.body ≠ none := by intro e; rw [e] at e3; cases e3
    have e4' : fn1.name ≠ "runtime.NumGoroutine" := by intro e; rw [e] at e4; simp at e4
    have t1 : (Instr.enterLoop fn a.tmps ps' asg' body' F.round).run p w = .ok (w.heap.size + 1, [mark w.heap.size]) w1 := by
      rw [hr, ← hw1]; exact run_enterLoop_outer fn a.tmps ps' asg' body'
    have t2 : (resolve a.eval (rangeCall g (w.heap.size + 1)) 0).run p w1 = .ok { target := .fn (.func f1) caps, args := fs1 ++ #[.func (.yield (w.heap.size + 1)) #[] #[]] } w1 := by
      show (Deferred.ofValue (a.eval g) (#[Operand.const (.func (.yield (w.heap.size + 1)) #[] #[])].map a.eval)).run p w1 = _
      rw [e1]
      simp [Deferred.ofValue, Act.eval]
    have t3 : (invoke (.fn (.func f1) caps) (fs1 ++ #[.func (.yield (w.heap.size + 1)) #[] #[]])).run p w1 = .ok (.enter f1 (fs1 ++ #[.func (.yield (w.heap.size + 1)) #[] #[]] ++ caps)) w1 := by
      simp [invoke, callFunc, e2, e3', e4']
    have t4 : CallsIn F (n - 1) p f1 (fs1 ++ #[.func (.yield (w.heap.size + 1)) #[] #[]] ++ caps) w1 (rangePost F n p (w.heap.size + 1) (Post (crOf okD p) N B0 Bm φ h w x s' h') { a with defers := [mark w.heap.size] ++ a.defers }) := by
      refine hF.calls (CallsIn.mono e5 ?_)
      rintro e w3 ⟨uv, rfl, φ2, s2, x2, r2⟩
      obtain ⟨i2, d1, d2⟩ := s2.obj h.sz ob g8 (fun e => by subst e; cases g9)
      have hL2 : φ2 h.sz = some i0 := (x2.le s1) _ _ hL
      rw [hL2] at d1; cases d1
      cases ob with
      | lp sl ps2 asg2 body2 j busy =>
        obtain ⟨r, q1, q2, q3, q4, q6, q7, q8⟩ := d2
        obtain ⟨g10, g11⟩ := guardB_eq.1 (show guardB (!busy) (h2.put h.sz .dead (fun h => Option.rec (motive := fun _ => RC) (some (.nrm, s, h)) (fun j => runC cl m j s h) j)) = some (x, s', h') from g9)
        have hbz : busy = false := by simpa using g10
        rw [H.put_eq] at g11
        have hst : r.state ≠ .busy := by rw [q6 hbz]; cases j <;> simp
        have hlt : w.heap.size + 1 < w3.heap.size := (Array.getElem?_eq_some_iff.1 q1).1
        refine ⟨r.pending, w3.putObj (w.heap.size + 1) (.loop { r with state := .exhausted }), run_endLoop q1 hst, ?_⟩
        obtain ⟨s3, x3⟩ := s2.write (w' := w3.putObj (w.heap.size + 1) (.loop { r with state := .exhausted })) g8 rfl hL2 rfl (by simp) (fun k hk => World.putObj_heap_other hk) rfl rfl rfl (o' := .dead) (.inl rfl)
        generalize w3.putObj (w.heap.size + 1) (.loop { r with state := .exhausted }) = w4 at s3 x3 ⊢
        have hm3 := (hmk.ext s1 x2).ext s2 x3
        have hext := (x01.trans x2).trans x3
        have hrs : RelS φ2 s a.tmps := (hs.mono hle).mono (x2.le s1)
        cases j with
        | none =>
          cases g11
          cases hp : r.pending with
          | none => exact ⟨rfl, φ2, s3, hext, hrs, hN, hm3⟩
          | some c => rw [hp] at q7; exact absurd q7 (by simp [RelP])
        | some j =>
          have hrun : ∀ c, r.pending = some c → c.wpIn F n p (Post (crOf okD p) N B0 Bm φ h w x s' h') { a with defers := [mark w.heap.size] ++ a.defers } w4 := by
            intro c hc
            rw [hc] at q7
            have hok : okC okD p N false c j = true := by
              unfold RelP at q7
              split at q7
              · rename_i e _; cases e
              · rename_i e1 e2; cases e1; cases e2; simp [okC, q7]
              · rename_i e1 e2; cases e1; cases e2; simp [okC]
              · exact q7.elim
            exact wpIn_mono (ih hF (show runC cl m j s _ = some (x, s', h') from g11) hok (fun _ => hr) s3 hrs hN hm3 (Nat.le_trans hB hext.size)) fun e a w q => q.of_ext hext
          cases hp : r.pending with
          | none => rw [hp] at q7; cases j <;> exact absurd q7 (by simp [RelP])
          | some c => exact hrun c hp
      | _ => cases g9
    exact ⟨_, _, _, _, _, _, _, _, t1, t2, fun f' _ => hF.fn f', t3, (fun hd => by rw [hF.depth] at hd; cases hd), t4⟩
  · rw [e1] at hfv
    cases f0 with
    | fnc k => cases hfv
    | fn k b => obtain ⟨_, arr, _, e⟩ := hfv; cases e
    | _ => cases g4
end
end Go.Am
