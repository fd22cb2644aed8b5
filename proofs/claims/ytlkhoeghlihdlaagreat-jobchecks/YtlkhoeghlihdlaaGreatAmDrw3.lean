import Derived.Test.YtlkhoeghlihdlaaGreatAmDrw1
namespace Go.Am
set_option autoImplicit false
set_option linter.unusedSimpArgs false
set_option linter.unusedVariables false

/-! what is checked of a region that draws its order -/
def edgesB (o : Oper) : List Nat := (o.after.toList.filter fun e => Region.binds .any e).map fun e => e.on
def orL (M : List Nat) (es : List Nat) : Nat := es.foldr (fun e s => Nat.lor (Nat.lor (2 ^ e) (M.getD e 0)) s) 0
def ancM : List Oper → List Nat → List Nat
  | [], M => M
  | o :: os, M => ancM os (M ++ [orL M (edgesB o)])
def okAncL (M : List Nat) : List Oper → Nat → Bool
  | [], _ => true
  | o :: os, j => (edgesB o).all (fun e => Nat.blt e j) && Nat.beq (M.getD j 0) (orL M (edgesB o)) && okAncL M os (j + 1)
def dis (d : Option P) (rs : List P) : Bool := match d with | none => true | some d => rs.all fun q => !decide (q = d)
def neD (a b : Option P) : Bool := match a, b with | some a, some b => !decide (a = b) | _, _ => true
def okUs (nous : Bool) (i : Nat) (x : I) (u : Option (List Nat)) : Bool := match nous with | true => pureA x.a | false => (match u with | none => true | some l => l.any (Nat.beq i))
/-- a look-up of a number, and an entry that is made at the same key behind it in the text -/
def isSp (y : I) : Bool := y.g.isNone && (match y.a with | .o (.lki _ _ (.t _) (.t _)) => true | _ => false)
def eqKd (a b : Q) : Bool := match a, b with | .s j, .s k => Nat.beq j k | .f l, .f m => decide (l = m) | _, _ => false
def isZ (k : IntKind) (z : U) : Bool := match z with | .w (.int j n) => decide (j = k) && decide (n = 0) | _ => false
def okSp2 (y x : I) : Bool := x.g.isNone && (match y.a, x.a with | .o (.lki q k (.t m) (.t i)), .o (.men q' z (.t m') (.t i')) => eqKd q q' && isZ k z && decide (m = m') && decide (i = i') | _, _ => false)
def okSp (nous : Bool) (i j : Nat) (x y : I) (l : List I) : Bool :=
  match nous with
  | true => isSp y && Nat.blt j i && okSp2 y x && (List.range i).all (fun k => Nat.blt k j || dis (l.getD k default).d (rI y))
  | false => false
def okPair (nous : Bool) (i j : Nat) (x y : I) (u v : Option (List Nat)) (l : List I) : Bool :=
  dis x.d (rI y) && dis y.d (rI x) && neD x.d y.d && (!effA x.a || (okUs nous i y v || okSp nous i j x y l)) && (!effA y.a || (okUs nous j x u || okSp nous j i y x l))
def okDrM (M : List Nat) (ops : Array Oper) (l : List I) (us : List (Option (List Nat))) : Bool :=
  okAncL M ops.toList 0 && (List.range l.length).all (fun j => (List.range j).all fun i => Nat.testBit (M.getD j 0) i || okPair us.isEmpty i j (l.getD i default) (l.getD j default) (us.getD i none) (us.getD j none) l) &&
    (us.isEmpty || Nat.beq us.length l.length)
def okDr (ops : Array Oper) (l : List I) (us : List (Option (List Nat))) : Bool := okDrM (ancM ops.toList []) ops l us
def ancP (M : List Nat) (i j : Nat) : Prop := Nat.testBit (M.getD j 0) i = true

theorem orL_bit {M : List Nat} {i : Nat} : ∀ {es : List Nat}, Nat.testBit (orL M es) i = true → ∃ e ∈ es, e = i ∨ ancP M i e
  | [], h => by simp [orL] at h
  | e :: es, h => by
    have h' : Nat.testBit (Nat.lor (Nat.lor (2 ^ e) (M.getD e 0)) (orL M es)) i = true := h
    have h' : Nat.testBit ((2 ^ e ||| M.getD e 0) ||| orL M es) i = true := h'
    rw [Nat.testBit_or, Nat.testBit_or, Nat.testBit_two_pow, Bool.or_eq_true, Bool.or_eq_true] at h'
    rcases h' with (h' | h') | h'
    · exact ⟨e, by simp, .inl (by simpa using h')⟩
    · exact ⟨e, by simp, .inr h'⟩
    · obtain ⟨e', h1, h2⟩ := orL_bit h'
      exact ⟨e', by simp [h1], h2⟩
theorem okAncL_at {M : List Nat} : ∀ {os : List Oper} {k : Nat}, okAncL M os k = true → ∀ j o, os[j]? = some o → (∀ e ∈ edgesB o, e < k + j) ∧ M.getD (k + j) 0 = orL M (edgesB o)
  | [], k, h, j, o, hj => by simp at hj
  | x :: os, k, h, j, o, hj => by
    simp only [okAncL, Bool.and_eq_true] at h
    obtain ⟨⟨h1, h2⟩, h3⟩ := h
    cases j with
    | zero =>
      simp at hj
      subst hj
      exact ⟨fun e he => by have := List.all_eq_true.1 h1 e he; simpa [Nat.blt_eq] using this, by rw [Nat.beq_eq] at h2; exact h2⟩
    | succ j =>
      have := okAncL_at h3 j o (by simpa using hj)
      rw [Nat.add_right_comm, Nat.add_assoc] at this
      exact this
theorem mem_edgesB {o : Oper} {e : Nat} : e ∈ edgesB o ↔ ∃ x ∈ o.after, Region.binds .any x = true ∧ x.on = e := by
  simp only [edgesB, List.mem_map, List.mem_filter, Array.mem_toList_iff]
  constructor
  · rintro ⟨x, ⟨h1, h2⟩, h3⟩; exact ⟨x, h1, h2, h3⟩
  · rintro ⟨x, h1, h2, h3⟩; exact ⟨x, ⟨h1, h2⟩, h3⟩
theorem okDrM_spec {M : List Nat} {ops : Array Oper} {l : List I} {us : List (Option (List Nat))} (h : okDrM M ops l us = true) (hsz : ops.size = l.length) :
    (∀ j o, ops[j]? = some o → ∀ e ∈ o.after, Region.binds .any e = true → e.on < j) ∧
    (∀ i j o, ops[j]? = some o → ancP M i j → ∃ e ∈ o.after, Region.binds .any e = true ∧ (e.on = i ∨ ancP M i e.on)) ∧
    (∀ i j, i < l.length → j < l.length → ancP M i j → i < j) ∧
    (∀ i j, i < l.length → j < l.length → i ≠ j → ¬ ancP M i j → ¬ ancP M j i → okPair us.isEmpty i j (l.getD i default) (l.getD j default) (us.getD i none) (us.getD j none) l = true) ∧
    (us ≠ [] → us.length = l.length) := by
  simp only [okDrM, Bool.and_eq_true] at h
  obtain ⟨⟨h1, h2⟩, h3⟩ := h
  have a1 : ∀ j o, ops[j]? = some o → (∀ e ∈ edgesB o, e < j) ∧ M.getD j 0 = orL M (edgesB o) := fun j o ho => by
    have := okAncL_at h1 j o (by simpa using ho)
    simpa using this
  have a2 : ∀ j o, ops[j]? = some o → ∀ e ∈ o.after, Region.binds .any e = true → e.on < j := fun j o ho e he hb => (a1 j o ho).1 e.on (mem_edgesB.2 ⟨e, he, hb, rfl⟩)
  have a3 : ∀ i j o, ops[j]? = some o → ancP M i j → ∃ e ∈ o.after, Region.binds .any e = true ∧ (e.on = i ∨ ancP M i e.on) := fun i j o ho ha => by
    unfold ancP at ha
    rw [(a1 j o ho).2] at ha
    obtain ⟨e, k1, k2⟩ := orL_bit ha
    obtain ⟨x, m1, m2, rfl⟩ := mem_edgesB.1 k1
    exact ⟨x, m1, m2, k2⟩
  have a4 : ∀ j i, j < l.length → ancP M i j → i < j := by
    intro j
    induction j using Nat.strongRecOn with
    | _ j ih =>
      intro i hj ha
      have ho : ops[j]? = some ops[j] := by simp [hsz, hj]
      obtain ⟨e, k1, k2, k3⟩ := a3 i j _ ho ha
      have hlt := a2 j _ ho e k1 k2
      rcases k3 with rfl | k3
      · exact hlt
      · have := ih e.on hlt i (by omega) k3; omega
  have a5 : ∀ i j, i < j → j < l.length → ¬ ancP M i j → okPair us.isEmpty i j (l.getD i default) (l.getD j default) (us.getD i none) (us.getD j none) l = true := fun i j hij hj ha => by
    have := List.all_eq_true.1 (List.all_eq_true.1 h2 j (by simpa using hj)) i (by simpa using hij)
    rw [Bool.or_eq_true] at this
    exact this.resolve_left ha
  refine ⟨a2, a3, fun i j hi hj ha => a4 j i hj ha, fun i j hi hj hne h4 h5 => ?_, fun hne => ?_⟩
  · rcases Nat.lt_or_ge i j with k | k
    · exact a5 i j k hj h4
    · have := a5 j i (by omega) hi h5
      have sym : ∀ a b : Option P, neD a b = neD b a := by
        intro a b
        cases a <;> cases b <;> simp [neD, eq_comm]
      simp only [okPair, Bool.and_eq_true] at this ⊢
      obtain ⟨⟨⟨⟨q1, q2⟩, q3⟩, q4⟩, q5⟩ := this
      exact ⟨⟨⟨⟨q2, q1⟩, by rw [sym]; exact q3⟩, q5⟩, q4⟩
  · rw [Bool.or_eq_true] at h3
    rcases h3 with k | k
    · exact absurd (List.isEmpty_iff.1 k) hne
    · rwa [Nat.beq_eq] at k

/-! traces -/
structure MonoD (h h' : H) (l n : List P) : Prop where
  log : h'.log = l ++ h.log
  nw : h'.nw = n ++ h.nw
  fr : ∀ b, b ∉ l → b ∉ n → h'.tr.get b = h.tr.get b
  rng : ∀ b ∈ n, h.sz.nat ≤ b.nat ∧ b.nat < h'.sz.nat
  old : ∀ b ∈ l, b ∈ n ∨ ∃ o, h.tr.get b = some o ∧ o.mut = true
  al : ∀ b : P, h.sz.nat ≤ b.nat → b.nat < h'.sz.nat → b ∈ n
theorem Mono.d {h h' : H} (m : Mono h h') : ∃ l n, MonoD h h' l n := by
  obtain ⟨_, l, n, h1, h2, h3, h4, h5, h6⟩ := m
  exact ⟨l, n, h1, h2, h3, h4, h5, h6⟩
theorem MonoD.same {h : H} {l n : List P} (m : MonoD h h l n) : l = [] ∧ n = [] := by
  have h1 := m.log
  have h2 := m.nw
  constructor
  · exact List.self_eq_append_left.1 h1
  · exact List.self_eq_append_left.1 h2
theorem insV_set {cl : Call} {s s' : S} {h h' : H} {i : I} (hx : ins cl s h i = some (s', h')) : ∃ v, insV cl s h i = some (v, h') ∧ s' = setS s i.d v := by
  obtain ⟨v, h1, h2⟩ := ins_insV.1 hx
  refine ⟨v, h1, ?_⟩
  obtain ⟨d, a, g⟩ := i
  cases d with
  | none => cases h2; rfl
  | some q =>
    change bnd (s.set (some v) q) (fun s => some (s, h')) = some (s', h') at h2
    rw [Tr.set_eq] at h2; cases h2; rfl

section
variable {cr : CR} {B0 N : Nat} {cl : Call} {n : Nat} {h0 : H} {anc : Nat → Nat → Prop}
structure Pre (cl : Call) (n : Nat) (h0 : H) (anc : Nat → Nat → Prop) (sp : Nat → Bool) (ii : Nat → I) (ss : Nat → S) (vv : Nat → V) (kk hh hs : Nat → H) (ll nn : Nat → List P) : Prop where
  zero : hs 0 = h0
  run : ∀ j, j < n → sp j = false → insV cl (ss j) (kk j) (ii j) = some (vv j, hh j)
  set : ∀ j, j < n → ss (j + 1) = setS (ss j) (ii j).d (vv j)
  mono : ∀ j, j < n → (kk j).sz.nat ≤ (hh j).sz.nat
  md : ∀ j, j < n → MonoD (kk j) (hh j) (ll j) (nn j)
  szk : ∀ j, j < n → (kk j).sz = (hs j).sz
  szh : ∀ j, j < n → (hh j).sz = (hs (j + 1)).sz
  succ : ∀ j, j < n → ∀ b, (hs (j + 1)).tr.get b = if b ∈ ll j ++ nn j then (hh j).tr.get b else (hs j).tr.get b
  hlog : ∀ j, j < n → (hs (j + 1)).log = ll j ++ (hs j).log ∧ (hs (j + 1)).nw = nn j ++ (hs j).nw
  sub : ∀ j, j < n → ∀ b o, (kk j).tr.get b = some o → o ≠ .dead → (hs j).tr.get b = some o
  ord : ∀ j, j < n → ∀ b o, (kk j).tr.get b = some o → o ≠ .dead → (∀ i, i < j → b ∈ ll i ++ nn i → anc i j ∨ anc j i) ∧ (∀ i, j < i → i < n → b ∈ ll i → anc i j ∨ anc j i)
  low : ∀ b o, h0.tr.get b = some o → o ≠ .dead → b.nat < h0.sz.nat
  slot : ∀ i j, i < n → j < n → i ≠ j → ¬ anc i j → ¬ anc j i → ∀ d, (ii i).d = some d → d ∉ rI (ii j) ∧ (ii j).d ≠ some d
  ancl : ∀ i j, i < n → j < n → anc i j → i < j
  spl : ∀ j, j < n → sp j = true → ll j = [] ∧ nn j = []
  spv : ∀ j, j < n → sp j = true → ∀ D : Nat → Bool, (∀ i k, i < n → k < n → anc i k → D k = true → D i = true) → D j = false → (∀ i, i < n → anc i j → D i = true) →
    ∃ (K : H) (kd : IntKind) (m : Int), vv j = .w (.int kd m) ∧ K.sz.nat = (hs n).sz.nat ∧ insV cl (ss j) K (ii j) = some (vv j, K) ∧ ∀ b o, K.tr.get b = some o → o ≠ .dead → (vw h0 (fun j => (hs j).sz.nat) hh (fun j => ll j ++ nn j) D n b).1 = some o
variable {sp : Nat → Bool} {ii : Nat → I} {ss : Nat → S} {vv : Nat → V} {kk hh hs : Nat → H} {ll nn : Nat → List P}
theorem Pre.view (x : Pre cl n h0 anc sp ii ss vv kk hh hs ll nn) : ∀ {j : Nat}, j ≤ n → ∀ b, (vw h0 (fun j => (hs j).sz.nat) hh (fun j => ll j ++ nn j) all j b).1 = (hs j).tr.get b
  | 0, _, b => by rw [x.zero]; rfl
  | j + 1, hj, b => by
    rw [x.succ j (by omega) b, Go.Am.vw]
    by_cases hb : b ∈ ll j ++ nn j
    · rw [if_pos ⟨rfl, hb⟩, if_pos hb]
    · rw [if_neg (fun h => hb h.2), if_neg hb]
      exact Pre.view x (by omega) b
theorem Pre.alive (x : Pre cl n h0 anc sp ii ss vv kk hh hs ll nn) : ∀ {j : Nat}, j ≤ n → ∀ {b : P} {o : O}, (hs j).tr.get b = some o → o ≠ .dead → b.nat < (hs j).sz.nat
  | 0, _, b, o, hb, ho => by rw [x.zero] at hb ⊢; exact x.low b o hb ho
  | j + 1, hj, b, o, hb, ho => by
    have hm := x.mono j (by omega)
    have h1 := x.szk j (by omega)
    have h2 := x.szh j (by omega)
    rw [h1, h2] at hm
    rw [x.succ j (by omega)] at hb
    split at hb
    · rename_i hc
      have hn : b ∈ nn j → b.nat < (hs (j + 1)).sz.nat := fun h => by rw [← h2]; exact ((x.md j (by omega)).rng b h).2
      rcases List.mem_append.1 hc with h | h
      · rcases (x.md j (by omega)).old b h with k | ⟨o1, k1, k2⟩
        · exact hn k
        · have := Pre.alive x (j := j) (by omega) (x.sub j (by omega) b o1 k1 (O.mut_ne k2)) (O.mut_ne k2)
          omega
      · exact hn h
    · have := Pre.alive x (j := j) (by omega) hb ho
      omega
theorem Pre.szle (x : Pre cl n h0 anc sp ii ss vv kk hh hs ll nn) {i j : Nat} (hij : i ≤ j) (hj : j ≤ n) : (hs i).sz.nat ≤ (hs j).sz.nat := by
  induction j with
  | zero => have : i = 0 := by omega
            subst this; exact Nat.le_refl _
  | succ j ih =>
    rcases Nat.lt_or_ge j i with h | h
    · have : i = j + 1 := by omega
      subst this; exact Nat.le_refl _
    · have hm := x.mono j (by omega)
      rw [x.szk j (by omega), x.szh j (by omega)] at hm
      exact Nat.le_trans (ih h (by omega)) hm
noncomputable def Pre.tra (x : Pre cl n h0 anc sp ii ss vv kk hh hs ll nn) : Tra cl n h0 anc where
  sp := sp
  spl := x.spl
  spv := x.spv
  ii := ii
  ss := ss
  vv := vv
  kk := kk
  hh := hh
  ll := ll
  nn := nn
  zz := fun j => (hs j).sz.nat
  zero := by rw [x.zero]
  run := x.run
  set := x.set
  szk := fun j hj => by rw [x.szk j hj]
  szh := fun j hj => by rw [x.szh j hj]
  mono := fun j hj => x.szle (by omega) (by omega)
  log := fun j hj => ⟨(x.md j hj).log, (x.md j hj).nw⟩
  lold := fun j hj => (x.md j hj).old
  nrng := fun j hj b hb => by have := (x.md j hj).rng b hb; rw [x.szk j hj, x.szh j hj] at this; exact this
  nall := fun j hj b h1 h2 => (x.md j hj).al b (by rw [x.szk j hj]; exact h1) (by rw [x.szh j hj]; exact h2)
  view := fun j hj b o hb ho => by
    have h1 := x.sub j hj b o hb ho
    have h2 := x.alive (by omega) h1 ho
    refine ⟨by rw [x.view (by omega)]; exact h1, fun i hi hij hin => ?_⟩
    have h3 := x.ord j hj b o hb ho
    rcases Nat.lt_or_ge i j with k | k
    · exact h3.1 i k hin
    · rcases List.mem_append.1 hin with m | m
      · exact h3.2 i (by omega) hi m
      · have := ((x.md i hi).rng b m).1
        rw [x.szk i hi] at this
        have := x.szle (i := j) (j := i) (by omega) (by omega)
        omega
  low := fun b o hb ho => by rw [x.zero]; exact x.low b o hb ho
  slot := x.slot
  ancl := x.ancl
theorem Pre.logs (x : Pre cl n h0 anc sp ii ss vv kk hh hs ll nn) : ∀ {m : Nat}, m ≤ n → (∃ L, (hs m).log = L ++ h0.log ∧ ∀ b, b ∈ L ↔ ∃ j, j < m ∧ b ∈ ll j) ∧ ∃ L, (hs m).nw = L ++ h0.nw ∧ ∀ b, b ∈ L ↔ ∃ j, j < m ∧ b ∈ nn j
  | 0, _ => by rw [x.zero]; exact ⟨⟨[], rfl, by simp⟩, [], rfl, by simp⟩
  | m + 1, hm => by
    obtain ⟨⟨L, h1, h2⟩, L', h3, h4⟩ := Pre.logs x (m := m) (by omega)
    obtain ⟨e1, e2⟩ := x.hlog m (by omega)
    have key : ∀ (f : Nat → List P) (L : List P), (∀ b, b ∈ L ↔ ∃ j, j < m ∧ b ∈ f j) → ∀ b, b ∈ f m ++ L ↔ ∃ j, j < m + 1 ∧ b ∈ f j := by
      intro f L hL b
      rw [List.mem_append, hL b]
      constructor
      · rintro (k | ⟨j, k1, k2⟩)
        · exact ⟨m, by omega, k⟩
        · exact ⟨j, by omega, k2⟩
      · rintro ⟨j, k1, k2⟩
        by_cases e : j = m
        · subst e; exact .inl k2
        · exact .inr ⟨j, by omega, k2⟩
    exact ⟨⟨ll m ++ L, by rw [e1, h1, List.append_assoc], key ll L h2⟩, nn m ++ L', by rw [e2, h3, List.append_assoc], key nn L' h4⟩
theorem Pre.sound {cr : CR} {p : Program} {F : Fence} {fn : Nat} {ops : Array Oper} (x : Pre cl n h0 anc sp ii ss vv kk hh hs ll nn) (hm : p.follows .mixedOrders = true) (hF : Wide F) (hcl : CallSound cr p cl) (hsz : ops.size = n)
    (hok : ∀ j o, ops[j]? = some o → okI p N ops o (ii j) = true)
    (hed : ∀ j o, ops[j]? = some o → ∀ e ∈ o.after, Region.binds .any e = true → e.on < j) (hanc : ∀ i j o, ops[j]? = some o → anc i j → ∃ e ∈ o.after, Region.binds .any e = true ∧ (e.on = i ∨ anc i e.on))
    {φ : Phi} {w : World} {a : Act} {Q : Exit → Act → World → Prop} (hN : N ≤ a.tmps.size) (hs0 : RelS φ (ss 0) a.tmps) (sim : Sim cr B0 φ h0 w)
    (hQ : ∀ a' w' φ', Sim cr B0 φ' (hs n) w' → Ext φ h0 w φ' (hs n) w' → RelS φ' (ss n) a'.tmps → N ≤ a'.tmps.size → a'.defers = a.defers → Q .normal a' w') (t : Nat) :
    wpOpsIn F fn p ops Q (Region.schedule (p.follows .mixedOrders) ops t) a w := by
  simp only [Region.schedule, hm, Bool.true_or, if_true]
  refine wpAnyIn_sound ops.size t _ a w ?_
  obtain ⟨⟨L, l1, l2⟩, L', l3, l4⟩ := x.logs (Nat.le_refl n)
  have hrep : ∀ i, (Array.replicate ops.size false).getD i false = false := fun i => by
    unfold Array.getD; split <;> simp
  refine any_sound (B0 := B0) (t := x.tra) (φ0 := φ) (w0 := w) (ds := a.defers) hF hcl hsz hok hed hanc (fun φ' a' w' y => ?_) ops.size _ a w φ (by simpa using hsz) (fun j o _ h => ?_) ?_ ?_
  · obtain ⟨q1, q2, q3⟩ := y.done sim (h' := hs n) rfl (fun b => (x.view (Nat.le_refl n) b).symm) l1 l3 l2 l4
    exact hQ a' w' φ' q1 q2 q3 y.room y.defers
  · rw [hrep] at h; cases h
  · refine Nat.le_trans List.countP_le_length ?_
    simp [hsz]
  · exact SD.start sim hs0 hN fun i _ => hrep i
end
end Go.Am
namespace Go.Am
set_option autoImplicit false
set_option linter.unusedSimpArgs false
set_option linter.unusedVariables false
section
variable {q : Q} {kv z : U}
/-- what a look-up without 'ok' comes to -/
noncomputable def lkv (q : Q) (z kv : U) (es : List E) : Option U := bnd (findK q kv es 0) (fun f => some (match f with | none => z | some p => p.2))
theorem findK_eq (e : E) (es : List E) (i : Nat) : findK q kv (e :: es) i = bnd (keyEq q kv e.key) (fun r => if r then some (some (i, e.val)) else findK q kv es (i + 1)) := by
  obtain ⟨k, v, b⟩ := e
  show bnd (keyEq q kv k) (fun r => Bool.rec (motive := fun _ => Option (Option (Nat × U))) (natK (Nat.succ i) (findK q kv es)) (some (some (i, v))) r) = _
  congr 1
  funext r
  cases r
  · rw [natK_eq]; rfl
  · rfl
theorem findK_app (hk : keyEq q kv kv = some true) (c : Nat) : ∀ (es : List E) (i : Nat), findK q kv es i = some none → findK q kv (es ++ [⟨kv, z, c⟩]) i = some (some (i + es.length, z))
  | [], i, _ => by rw [List.nil_append, findK_eq, hk]; simp
  | e :: es, i, h => by
    rw [findK_eq] at h
    rw [List.cons_append, findK_eq]
    obtain ⟨r, h1, h2⟩ := bnd_eq.1 h
    rw [h1, bnd_some]
    cases r with
    | true => simp at h2
    | false =>
      simp only [Bool.false_eq_true, if_false] at h2 ⊢
      rw [findK_app hk c es (i + 1) h2]
      simp; omega
theorem findK_mod (hk : keyEq q kv kv = some true) : ∀ (es : List E) (i j : Nat) (u : U), findK q kv es i = some (some (j, u)) → i ≤ j ∧ findK q kv (es.modify (j - i) (fun e => ⟨kv, e.val, e.born⟩)) i = some (some (j, u))
  | [], i, j, u, h => by cases h
  | e :: es, i, j, u, h => by
    rw [findK_eq] at h
    obtain ⟨r, h1, h2⟩ := bnd_eq.1 h
    cases r with
    | true =>
      simp only [if_true, Option.some.injEq, Prod.mk.injEq] at h2
      obtain ⟨rfl, rfl⟩ := h2
      refine ⟨Nat.le_refl _, ?_⟩
      rw [Nat.sub_self, List.modify_zero_cons, findK_eq, hk]
      simp
    | false =>
      simp only [Bool.false_eq_true, if_false] at h2
      obtain ⟨h3, h4⟩ := findK_mod hk es (i + 1) j u h2
      refine ⟨by omega, ?_⟩
      rw [show j - i = (j - (i + 1)) + 1 by omega, List.modify_succ_cons, findK_eq, h1, bnd_some]
      simpa using h4
variable {s : S} {h h' : H} {v : V} {r : P} {c : Nat} {es : List E}
theorem men_lk {x1 x2 : Opd} (h1 : opd s x1 = some (.w (.map r))) (h2 : opd s x2 = some kv.v) (hk : keyEq q kv kv = some true) (ho : h.tr.get r = some (.map es c)) (hx : aMen s h q z x1 x2 = some (v, h')) :
    ∃ es' c', h'.tr.get r = some (.map es' c') ∧ lkv q z kv es' = lkv q z kv es := by
  obtain ⟨mv, g1, g2⟩ := bnd_eq.1 hx
  rw [h1] at g1; cases g1
  obtain ⟨r', e1, g3⟩ := onMap_eq.1 g2
  cases e1
  obtain ⟨kv', g4, g5⟩ := bnd_eq.1 g3
  rw [h2] at g4; cases g4
  obtain ⟨kv', e2, g6⟩ := onU_eq.1 g5
  have e2 : kv = kv' := by cases kv <;> cases kv' <;> simp_all [U.v]
  subst e2
  obtain ⟨_, g7⟩ := guardB_eq.1 g6
  obtain ⟨es1, c1, g8, g9⟩ := atMap_eq.1 g7
  rw [ho] at g8; cases g8
  obtain ⟨f, g10, g11⟩ := bnd_eq.1 g9
  cases f with
  | none =>
    obtain ⟨es2, g12, g13⟩ := bnd_eq.1 (show bnd (appX es [⟨kv, z, c⟩]) (fun es => natK (Nat.succ c) (fun c' => h.put r (.map es c') (fun h => some (V.t [z, .w (.int .i64 (Int.ofNat c))], h)))) = some (v, h') from g11)
    rw [appX_eq] at g12; cases g12
    rw [natK_eq, H.put_eq] at g13
    cases g13
    refine ⟨_, _, Tr.get_put_same _ _ _, ?_⟩
    unfold lkv
    rw [findK_app hk c es 0 g10, g10]; rfl
  | some p =>
    obtain ⟨i, u⟩ := p
    obtain ⟨e, g12, g13⟩ := bnd_eq.1 (show bnd (nthX i es) (fun e => E.rec (motive := fun _ => R) (fun _ _ b => altE h r i es c (fun e => ⟨kv, e.val, e.born⟩) (.t [u, .w (.int .i64 (Int.ofNat b))])) e) = some (v, h') from g11)
    obtain ⟨ek, ev, eb⟩ := e
    obtain ⟨es2, g14, g15⟩ := bnd_eq.1 (show bnd (modE (fun e => ⟨kv, e.val, e.born⟩) i es) (fun es => h.put r (.map es c) (fun h => some (V.t [u, .w (.int .i64 (Int.ofNat eb))], h))) = some (v, h') from g13)
    rw [H.put_eq] at g15
    cases g15
    obtain ⟨_, rfl⟩ := modE_eq g14
    refine ⟨_, _, Tr.get_put_same _ _ _, ?_⟩
    have := (findK_mod hk es 0 i u g10).2
    unfold lkv
    rw [g10, Nat.sub_zero] at *
    rw [this]
theorem onU_v {β : Type} (u : U) (f : U → Option β) : onU u.v f = f u := by cases u <;> rfl
theorem U.v_inj {u u' : U} (h : u.v = u'.v) : u = u' := by cases u <;> cases u' <;> simp_all [U.v]
/-- the look-up, taken apart -/
theorem lki_parts {k : IntKind} {x1 x2 : Opd} (hx : aLki s h q k x1 x2 = some (v, h')) : h' = h ∧ (∃ kd n, v = .w (.int kd n)) ∧ ∃ kv : U, opd s x2 = some kv.v ∧ keyEq q kv kv = some true ∧ keyOk q kv = true ∧
    ((opd s x1 = some (.w .nilm) ∧ v = .w (.int k 0)) ∨ ∃ r es c, opd s x1 = some (.w (.map r)) ∧ h.tr.get r = some (.map es c) ∧ ∃ u : U, lkv q (.w (.int k 0)) kv es = some u ∧ v = u.v) := by
  obtain ⟨g1, g2, kv, g3, g4⟩ := lki_lkp hx
  have hro := ro_lkp g1
  obtain ⟨mv, e1, e2⟩ := bnd_eq.1 g1
  obtain ⟨mw, rfl, e3⟩ := onW_eq.1 e2
  obtain ⟨kv', e4, e5⟩ := bnd_eq.1 e3
  rw [g3] at e4; cases e4
  rw [onU_v] at e5
  obtain ⟨e6, e7⟩ := guardB_eq.1 e5
  refine ⟨hro, g2, kv, g3, g4, e6, ?_⟩
  cases mw with
  | nilm =>
    left
    refine ⟨e1, ?_⟩
    have e7' : some (V.w (.int k 0), h) = some (v, h') := e7
    cases e7'; rfl
  | map r =>
    right
    obtain ⟨es, c, e8, e9⟩ := atMap_eq.1 (show atMap h r (fun es _ => bnd (findK q kv es 0) (lkpR h false (.w (.int k 0)))) = some (v, h') from e7)
    obtain ⟨f, e10, e11⟩ := bnd_eq.1 e9
    refine ⟨r, es, c, e1, e8, ?_⟩
    unfold lkv
    rw [e10]
    cases f with
    | none =>
      have e12 : some (V.w (.int k 0), h) = some (v, h') := e11
      cases e12
      exact ⟨_, rfl, rfl⟩
    | some p =>
      obtain ⟨i, u⟩ := p
      refine ⟨u, rfl, ?_⟩
      cases u with
      | w x => have e12 : some (V.w x, h) = some (v, h') := e11; cases e12; rfl
      | a x => have e12 : some (V.a x, h) = some (v, h') := e11; cases e12; rfl
  | _ => cases e7
/-- and put together -/
theorem lki_mk {k : IntKind} {x1 x2 : Opd} (hv : ∃ kd n, v = .w (.int kd n)) (h3 : opd s x2 = some kv.v) (h4 : keyEq q kv kv = some true) (h5 : keyOk q kv = true)
    (h6 : (opd s x1 = some (.w .nilm) ∧ v = .w (.int k 0)) ∨ ∃ r es c, opd s x1 = some (.w (.map r)) ∧ h.tr.get r = some (.map es c) ∧ ∃ u : U, lkv q (.w (.int k 0)) kv es = some u ∧ v = u.v) :
    aLki s h q k x1 x2 = some (v, h) := by
  have main : aLkp s h q (.w (.int k 0)) false x1 x2 = some (v, h) := by
    rcases h6 with ⟨e1, e2⟩ | ⟨r, es, c, e1, e2, u, e3, e4⟩
    · subst e2
      simp only [aLkp, e1, bnd_some, h3, onU_v, h5, guardB_true, onW]
      rfl
    · subst e4
      unfold lkv at e3
      obtain ⟨f, g1, g2⟩ := bnd_eq.1 e3
      simp only [aLkp, e1, bnd_some, h3, onU_v, h5, guardB_true, onW, lkpW]
      refine atMap_eq.2 ⟨es, c, e2, bnd_eq.2 ⟨f, g1, ?_⟩⟩
      cases f with
      | none => cases g2; rfl
      | some p => obtain ⟨i, u'⟩ := p; cases g2; cases u' <;> rfl
  obtain ⟨kd, n, rfl⟩ := hv
  simp only [aLki, h3, bnd_some, onU_v, h4, guardB_true]
  exact intR_eq.2 ⟨main, kd, n, rfl⟩
end
end Go.Am
namespace Go.Am
set_option autoImplicit false
set_option linter.unusedSimpArgs false
set_option linter.unusedVariables false
def shift {α : Type} (x : α) (f : Nat → α) : Nat → α
  | 0 => x
  | j + 1 => f j
section
variable {cl : Call}
theorem insL_seq : ∀ {l : List I} {s s' : S} {h h' : H}, insL cl l s h = some (s', h') → ∃ (ss : Nat → S) (hs : Nat → H) (vv : Nat → V), ss 0 = s ∧ hs 0 = h ∧ ss l.length = s' ∧ hs l.length = h' ∧
    ∀ j i, l[j]? = some i → insV cl (ss j) (hs j) i = some (vv j, hs (j + 1)) ∧ ss (j + 1) = setS (ss j) i.d (vv j)
  | [], s, s', h, h', hx => by
    cases hx
    exact ⟨fun _ => s, fun _ => h, fun _ => default, rfl, rfl, rfl, rfl, fun j i hj => by simp at hj⟩
  | i :: l, s, s', h, h', hx => by
    obtain ⟨s1, h1, k1, k2⟩ := bnd2_eq.1 (show bnd2 (ins cl s h i) (insL cl l) = some (s', h') from hx)
    obtain ⟨v, e1, e2⟩ := insV_set k1
    obtain ⟨ss, hs, vv, a1, a2, a3, a4, a5⟩ := insL_seq k2
    refine ⟨shift s ss, shift h hs, shift v vv, rfl, rfl, a3, a4, fun j i' hj => ?_⟩
    cases j with
    | zero =>
      simp at hj
      subst hj
      exact ⟨by show insV cl s h i = some (v, hs 0); rw [a2]; exact e1, by show ss 0 = _; rw [a1]; exact e2⟩
    | succ j => exact a5 j i' (by simpa using hj)
theorem hid_mem {done tbl : List (List P)} : ∀ {us : List Nat} {m : List P}, hid us done tbl = some m → ∀ u ∈ us, ∀ l, (done[u]? = some l ∨ done[u]? = none ∧ tbl[u]? = some l) → ∀ b ∈ l, b ∈ m
  | [], m, e, u, hu, l, hl, b, hb => by cases hu
  | x :: us, m, e, u, hu, l, hl, b, hb => by
    obtain ⟨r, e1, e2⟩ := bnd_eq.1 (show bnd (hid us done tbl) (fun r =>
      Option.rec (motive := fun _ => Option (List P)) (Option.rec (motive := fun _ => Option (List P)) (some r) (fun l => appX l r) (nthX x tbl)) (fun l => appX l r) (nthX x done)) = some m from e)
    rw [nthX_eq, nthX_eq] at e2
    have sub : ∀ b ∈ r, b ∈ m := by
      intro b hb
      cases h1 : done[x]? with
      | some l1 => rw [h1] at e2; change appX l1 r = some m at e2; rw [appX_eq] at e2; cases e2; simp [hb]
      | none =>
        rw [h1] at e2
        cases h2 : tbl[x]? with
        | some l1 => rw [h2] at e2; change appX l1 r = some m at e2; rw [appX_eq] at e2; cases e2; simp [hb]
        | none => rw [h2] at e2; cases e2; exact hb
    rcases List.mem_cons.1 hu with rfl | hu
    · rcases hl with h1 | ⟨h1, h2⟩
      · rw [h1] at e2; change appX l r = some m at e2; rw [appX_eq] at e2; cases e2; simp [hb]
      · rw [h1, h2] at e2; change appX l r = some m at e2; rw [appX_eq] at e2; cases e2; simp [hb]
    · exact sub b (hid_mem e1 u hu l hl b hb)
theorem passL_seq {tbl : List (List P)} : ∀ {l : List I} {us : List (Option (List Nat))} {s s' : S} {h h' : H} {done wr wr' : List (List P)}, passL cl tbl l us s h done wr = some ((s', h'), wr') →
    ∃ (ss : Nat → S) (hs : Nat → H) (vv : Nat → V) (kt : Nat → Tr O) (hh : Nat → H), ss 0 = s ∧ hs 0 = h ∧ ss l.length = s' ∧ hs l.length = h' ∧ wr' = wr ++ (List.range l.length).map (fun j => (hh j).log) ∧
    ∀ j i, l[j]? = some i → ∃ u tr, us[j]? = some u ∧ seen u (done ++ (List.range j).map (fun i => (hh i).log ++ (hh i).nw)) tbl (hs j).tr = some (kt j) ∧
      insV cl (ss j) ⟨(hs j).sz, kt j, [], []⟩ i = some (vv j, hh j) ∧ ss (j + 1) = setS (ss j) i.d (vv j) ∧ overL (hh j).tr ((hh j).log ++ (hh j).nw) (hs j).tr = some tr ∧
      hs (j + 1) = ⟨(hh j).sz, tr, (hh j).log ++ (hs j).log, (hh j).nw ++ (hs j).nw⟩
  | [], us, s, s', h, h', done, wr, wr', hx => by
    cases hx
    exact ⟨fun _ => s, fun _ => h, fun _ => default, fun _ => .e, fun _ => h, rfl, rfl, rfl, rfl, by simp, fun j i hj => by simp at hj⟩
  | i :: l, us, s, s', h, h', done, wr, wr', hx => by
    obtain ⟨u, us', k, s1, h1, w1, t1, rfl, e1, e2, e3⟩ := passL_cons.1 hx
    obtain ⟨h2, tr, d1, d2, d3, d4, d5⟩ := insM_eq.1 e2
    obtain ⟨v, f1, f2⟩ := insV_set d1
    obtain ⟨ss, hs, vv, kt, hh, a1, a2, a3, a4, a5, a6⟩ := passL_seq e3
    refine ⟨shift s ss, shift h hs, shift v vv, shift k kt, shift h2 hh, rfl, rfl, a3, a4, ?_, fun j i' hj => ?_⟩
    · rw [a5, List.append_assoc, d2, List.length_cons, List.range_succ_eq_map, List.map_cons, List.map_map]
      rfl
    · cases j with
      | zero =>
        simp at hj
        subst hj
        refine ⟨u, tr, rfl, by simpa [shift] using e1, f1, by show ss 0 = _; rw [a1]; exact f2, by rw [d3] at d4; exact d4, by show hs 0 = _; rw [a2]; exact d5⟩
      | succ j =>
        obtain ⟨u', tr', b1, b2, b3, b4, b5, b6⟩ := a6 j i' (by simpa using hj)
        refine ⟨u', tr', by simpa using b1, ?_, b3, b4, b5, b6⟩
        have : done ++ (List.range (j + 1)).map (fun i => (shift h2 hh i).log ++ (shift h2 hh i).nw) = done ++ [t1] ++ (List.range j).map (fun i => (hh i).log ++ (hh i).nw) := by
          rw [List.append_assoc, List.range_succ_eq_map, List.map_cons, List.map_map, d3]
          rfl
        rw [this]
        exact b2
end
theorem dis_spec {d : Option P} {rs : List P} (h : dis d rs = true) : ∀ q, d = some q → q ∉ rs := by
  intro q e hq
  subst e
  have := List.all_eq_true.1 h q hq
  simp at this
theorem neD_spec {a b : Option P} (h : neD a b = true) : ∀ q, a = some q → b ≠ some q := by
  rintro q rfl rfl
  simp [neD] at h
theorem allNil_spec {a : List (List P)} (h : allNil a = true) : ∀ x ∈ a, x = [] := by
  induction a with
  | nil => intro x hx; cases hx
  | cons y a ih =>
    intro x hx
    cases y with
    | cons _ _ => cases h
    | nil =>
      rcases List.mem_cons.1 hx with rfl | hx
      · rfl
      · exact ih h x hx
theorem okIs_len {p : Program} {N : Nat} {ops : Array Oper} : ∀ {os : List Oper} {is : List I}, okIs p N ops os is = true → os.length = is.length ∧ ∀ (j : Nat) (o : Oper), os[j]? = some o → ∃ i, is[j]? = some i ∧ okI p N ops o i = true
  | [], [], _ => ⟨rfl, fun j o h => by simp at h⟩
  | [], _ :: _, h => by cases h
  | _ :: _, [], h => by cases h
  | o :: os, i :: is, h => by
    simp only [okIs, Bool.and_eq_true] at h
    obtain ⟨k1, k2⟩ := okIs_len h.2
    refine ⟨by simp [k1], fun j o' hj => ?_⟩
    cases j with
    | zero => simp at hj; subst hj; exact ⟨i, by simp, h.1⟩
    | succ j => simpa using k2 j o' (by simpa using hj)
theorem opd_t' (s : S) (p : P) : opd s (.t p) = s.get p := rfl
theorem vw_raw {h0 : H} {zz : Nat → Nat} {hh : Nat → H} {tt : Nat → List P} {D D' : Nat → Bool} {b : P} : ∀ {m : Nat}, (∀ i, i < m → b ∈ tt i → D i = D' i) → vw h0 zz hh tt D m b = vw h0 zz hh tt D' m b
  | 0, _ => rfl
  | m + 1, h => by
    rw [vw, vw, vw_raw fun i hi => h i (by omega)]
    by_cases hb : b ∈ tt m
    · rw [h m (by omega) hb]
    · simp [hb]
theorem insV_none {cl : Call} {s : S} {h : H} {i : I} (hg : i.g = none) : insV cl s h i = act cl s h i.a := by
  obtain ⟨d, a, g⟩ := i
  simp only at hg
  subst hg
  rfl
theorem setS_get {s : S} {d : Option P} {v : V} {q : P} (h : d ≠ some q) : (setS s d v).get q = s.get q := by
  cases d with
  | none => rfl
  | some d => exact Tr.get_put_ne _ (fun e => h (by rw [e])) _
theorem isSp_spec {y : I} (h : isSp y = true) : y.g = none ∧ ∃ q k m i, y.a = .o (.lki q k (.t m) (.t i)) := by
  simp only [isSp, Bool.and_eq_true, Option.isNone_iff_eq_none] at h
  obtain ⟨h1, h2⟩ := h
  refine ⟨h1, ?_⟩
  split at h2
  · rename_i q k m i e; exact ⟨q, k, m, i, e⟩
  · cases h2
theorem eqKd_spec {a b : Q} (h : eqKd a b = true) : a = b := by
  unfold eqKd at h
  split at h
  · rw [Nat.beq_eq] at h; rw [h]
  · rw [of_decide_eq_true h]
  · cases h
theorem isZ_spec {k : IntKind} {z : U} (h : isZ k z = true) : z = .w (.int k 0) := by
  unfold isZ at h
  split at h
  · simp only [Bool.and_eq_true, decide_eq_true_eq] at h; rw [h.1, h.2]
  · cases h
theorem okSp2_spec {y x : I} {q : Q} {k : IntKind} {m i : P} (hy : y.a = .o (.lki q k (.t m) (.t i))) (h : okSp2 y x = true) : x.g = none ∧ x.a = .o (.men q (.w (.int k 0)) (.t m) (.t i)) := by
  simp only [okSp2, hy, Bool.and_eq_true, Option.isNone_iff_eq_none] at h
  obtain ⟨h1, h2⟩ := h
  refine ⟨h1, ?_⟩
  split at h2
  · rename_i q1 k1 m1 i1 q' z m' i' e1 e2
    cases e1
    simp only [Bool.and_eq_true, decide_eq_true_eq] at h2
    obtain ⟨⟨⟨h3, h4⟩, h5⟩, h6⟩ := h2
    rw [e2, ← eqKd_spec h3, isZ_spec h4, h5, h6]
  · cases h2
section
variable {cr : CR} {p : Program}
theorem drawSound (hm : p.follows .mixedOrders = true) : DrawSound cr p okDr := by
  intro F cl fn N B0 ops l us φ h h' w s s' a Q hF hcl hmc hk hD hN hs sim hx hQ t
  obtain ⟨hlen, hok⟩ := okIs_len hk
  have hsz : ops.size = l.length := by simpa using hlen
  obtain ⟨d1, d2, d3, d4, d5⟩ := okDrM_spec (M := ancM ops.toList []) hD hsz
  have hat : ∀ j, j < l.length → l[j]? = some (l.getD j default) := fun j hj => by simp [List.getD, hj]
  have hoki : ∀ j o, ops[j]? = some o → okI p N ops o (l.getD j default) = true := fun j o ho => by
    obtain ⟨i, k1, k2⟩ := hok j o (by simpa using ho)
    have : l.getD j default = i := by simp [List.getD, k1]
    rw [this]; exact k2
  have hlow : ∀ b o, h.tr.get b = some o → o ≠ .dead → b.nat < h.sz.nat := fun b o hb ho => sim.lt_of_get hb ho
  have hslot : ∀ i j, i < l.length → j < l.length → i ≠ j → ¬ ancP (ancM ops.toList []) i j → ¬ ancP (ancM ops.toList []) j i → ∀ d, (l.getD i default).d = some d → d ∉ rI (l.getD j default) ∧ (l.getD j default).d ≠ some d := by
    intro i j hi hj hij h1 h2 d hd
    have := d4 i j hi hj hij h1 h2
    simp only [okPair, Bool.and_eq_true] at this
    exact ⟨dis_spec this.1.1.1.1 d hd, neD_spec this.1.1.2 d hd⟩
  cases us with
  | nil =>
    obtain ⟨ss, hs', vv, a1, a2, a3, a4, a5⟩ := insL_seq (show insL cl l s h = some (s', h') from hx)
    have run0 : ∀ j, j < l.length → insV cl (ss j) (hs' j) (l.getD j default) = some (vv j, hs' (j + 1)) := fun j hj => (a5 j _ (hat j hj)).1
    let B : Nat → Bool := fun j => pureA (l.getD j default).a || isSp (l.getD j default)
    let kk : Nat → H := fun j => if B j = true then ⟨(hs' j).sz, .e, (hs' j).log, (hs' j).nw⟩ else hs' j
    let hh : Nat → H := fun j => if B j = true then ⟨(hs' j).sz, .e, (hs' j).log, (hs' j).nw⟩ else hs' (j + 1)
    have hrun : ∀ j, j < l.length → isSp (l.getD j default) = false → insV cl (ss j) (kk j) (l.getD j default) = some (vv j, hh j) := fun j hj hsp => by
      by_cases hp : pureA (l.getD j default).a = true
      · have hB : B j = true := by simp only [B, hp, Bool.true_or]
        simp only [kk, hh, if_pos hB]
        exact (blind_insV (cl := cl) hp (k := ⟨(hs' j).sz, .e, (hs' j).log, (hs' j).nw⟩) (run0 j hj)).2
      · have hB : ¬ B j = true := by simp only [B, hsp, Bool.or_false]; exact hp
        simp only [kk, hh, if_neg hB]; exact run0 j hj
    have hmono : ∀ j, j < l.length → Mono (kk j) (hh j) := fun j hj => by
      by_cases hsp : isSp (l.getD j default) = true
      · have hB : B j = true := by simp only [B, hsp, Bool.or_true]
        simp only [kk, hh, if_pos hB]; exact Mono.refl _
      · exact mon_insV hmc _ _ (hrun j hj (by simpa using hsp))
    have hex : ∀ j, ∃ ln : List P × List P, j < l.length → MonoD (kk j) (hh j) ln.1 ln.2 := fun j => by
      by_cases hj : j < l.length
      · obtain ⟨l1, n1, k⟩ := (hmono j hj).d
        exact ⟨(l1, n1), fun _ => k⟩
      · exact ⟨([], []), fun h => absurd h hj⟩
    obtain ⟨ln, hln⟩ := Classical.skolem.1 hex
    have hspe : ∀ y : I, isSp y = true → effA y.a = false := fun y hy => by
      obtain ⟨_, q, k, m, i, e⟩ := isSp_spec hy
      rw [e]; rfl
    have hpure : ∀ j, j < l.length → B j = true → hs' (j + 1) = hs' j := fun j hj hp => by
      by_cases hsp : isSp (l.getD j default) = true
      · exact ro_insV (hspe _ hsp) (run0 j hj)
      · have hp : pureA (l.getD j default).a = true := by
          simp only [B, Bool.or_eq_true] at hp; exact hp.resolve_right hsp
        exact (blind_insV (cl := cl) hp (k := hs' j) (run0 j hj)).1
    have hnil : ∀ j, j < l.length → effA (l.getD j default).a = false → (ln j).1 = [] ∧ (ln j).2 = [] := fun j hj he => by
      have e : hh j = kk j := by
        by_cases hB : B j = true
        · simp only [kk, hh, if_pos hB]
        · simp only [B, Bool.or_eq_true, not_or] at hB
          exact ro_insV he (hrun j hj (by simpa using hB.2))
      have := hln j hj
      rw [e] at this
      exact this.same
    have hnoeff : ∀ a : A, pureA a = true → effA a = false := by
      intro a ha
      cases a <;> first | rfl | (cases ha; done) | skip
      rename_i b
      cases b <;> first | rfl | (cases ha; done)
    have hBe : ∀ j, B j = true → effA (l.getD j default).a = false := fun j hB => by
      by_cases hsp : isSp (l.getD j default) = true
      · exact hspe _ hsp
      · exact hnoeff _ (by simp only [B, Bool.or_eq_true] at hB; exact hB.resolve_right hsp)
    have hsucc : ∀ j, j < l.length → ∀ b, (hs' (j + 1)).tr.get b = if b ∈ (ln j).1 ++ (ln j).2 then (hh j).tr.get b else (hs' j).tr.get b := fun j hj b => by
      by_cases hp : B j = true
      · obtain ⟨e1, e2⟩ := hnil j hj (hBe j hp)
        rw [e1, e2, hpure j hj hp]; simp
      · have := hln j hj
        simp only [kk, hh, if_neg hp] at this
        simp only [hh, if_neg hp]
        split
        · rfl
        · rename_i hn
          rw [List.mem_append] at hn
          exact this.fr b (fun h => hn (.inl h)) (fun h => hn (.inr h))
    have heff : ∀ i, i < l.length → ∀ b : P, b ∈ (ln i).1 ++ (ln i).2 → effA (l.getD i default).a = true := fun i hi b hin => by
      cases he : effA (l.getD i default).a with
      | true => rfl
      | false => obtain ⟨e1, e2⟩ := hnil i hi he; rw [e1, e2] at hin; simp at hin
    -- an operation that is not ordered with one that writes
    have hunord : ∀ i j, i < l.length → j < l.length → i ≠ j → effA (l.getD i default).a = true → ¬ ancP (ancM ops.toList []) i j → ¬ ancP (ancM ops.toList []) j i →
        pureA (l.getD j default).a = true ∨ okSp true i j (l.getD i default) (l.getD j default) l = true := fun i j hi hj hij he h1 h2 => by
      have hpr := d4 i j hi hj hij h1 h2
      simp only [okPair, Bool.and_eq_true] at hpr
      have := hpr.1.2
      rw [he] at this
      simpa only [Bool.not_true, Bool.false_or, okUs, List.isEmpty_nil, Bool.or_eq_true] using this
    have hord : ∀ j, j < l.length → B j = false → ∀ i, i < l.length → i ≠ j → ∀ b : P, b ∈ (ln i).1 ++ (ln i).2 → ancP (ancM ops.toList []) i j ∨ ancP (ancM ops.toList []) j i := by
      intro j hj hB i hi hij b hin
      by_cases h1 : ancP (ancM ops.toList []) i j
      · exact .inl h1
      · by_cases h2 : ancP (ancM ops.toList []) j i
        · exact .inr h2
        · simp only [B, Bool.or_eq_false_iff] at hB
          rcases hunord i j hi hj hij (heff i hi b hin) h1 h2 with k | k
          · rw [hB.1] at k; cases k
          · simp only [okSp, Bool.and_eq_true] at k
            rw [hB.2] at k; cases k.1.1.1
    have hview : ∀ m, m ≤ l.length → ∀ b, (vw h (fun j => (hs' j).sz.nat) hh (fun j => (ln j).1 ++ (ln j).2) all m b).1 = (hs' m).tr.get b := by
      intro m
      induction m with
      | zero => intro _ b; rw [a2]; rfl
      | succ m ih =>
        intro hm b
        rw [hsucc m (by omega) b, vw]
        by_cases hb : b ∈ (ln m).1 ++ (ln m).2
        · rw [if_pos ⟨rfl, hb⟩, if_pos hb]
        · rw [if_neg (fun h => hb h.2), if_neg hb]; exact ih (by omega) b
    have pre : Pre cl l.length h (ancP (ancM ops.toList [])) (fun j => isSp (l.getD j default)) (fun j => l.getD j default) ss vv kk hh hs' (fun j => (ln j).1) (fun j => (ln j).2) := by
      refine ⟨a2, hrun, fun j hj => (a5 j _ (hat j hj)).2, fun j hj => (hmono j hj).sz, hln, fun j hj => ?_, fun j hj => ?_, hsucc, fun j hj => ?_, fun j hj b o hb ho => ?_, fun j hj b o hb ho => ?_, hlow, hslot, d3, fun j hj hsp => hnil j hj (hspe _ hsp), fun j hj hsp D hc hDj hr => ?_⟩
      · simp only [kk]; split <;> rfl
      · by_cases hp : B j = true
        · simp only [hh, if_pos hp]; rw [hpure j hj hp]
        · simp only [hh, if_neg hp]
      · by_cases hp : B j = true
        · obtain ⟨e1, e2⟩ := hnil j hj (hBe j hp)
          rw [e1, e2, hpure j hj hp]; simp
        · have := hln j hj
          simp only [kk, hh, if_neg hp] at this
          exact ⟨this.log, this.nw⟩
      · by_cases hp : B j = true
        · simp only [kk, if_pos hp] at hb; simp at hb
        · simp only [kk, if_neg hp] at hb; exact hb
      · have hp : B j = false := by
          cases hp : B j with
          | false => rfl
          | true => simp only [kk, if_pos hp] at hb; simp at hb
        exact ⟨fun i hi hin => hord j hj hp i (by omega) (by omega) b hin, fun i hi hi' hin => hord j hj hp i hi' (by omega) b (List.mem_append_left _ hin)⟩
      · obtain ⟨hg, q, k, m, ix, hya⟩ := isSp_spec hsp
        have hrj := run0 j hj
        rw [insV_none hg, hya] at hrj
        obtain ⟨e0, hint, kv, e1, e2, e3, e4⟩ := lki_parts (show aLki (ss j) (hs' j) q k (.t m) (.t ix) = some (vv j, hs' (j + 1)) from hrj)
        obtain ⟨kd, nm, hvv⟩ := hint
        have mk : ∀ K : H, aLki (ss j) K q k (.t m) (.t ix) = some (vv j, K) → insV cl (ss j) K (l.getD j default) = some (vv j, K) := fun K hK => by
          rw [insV_none hg, hya]; exact hK
        rcases e4 with ⟨f1, f2⟩ | ⟨r, es, c, f1, f2, u, f3, f4⟩
        · refine ⟨⟨(hs' l.length).sz, .e, [], []⟩, kd, nm, hvv, rfl, mk _ (lki_mk ⟨kd, nm, hvv⟩ e1 e2 e3 (.inl ⟨f1, f2⟩)), fun b o hb => by simp at hb⟩
        · have inv : ∀ mm, j ≤ mm → mm ≤ l.length → ∃ es' c', (vw h (fun j => (hs' j).sz.nat) hh (fun j => (ln j).1 ++ (ln j).2) D mm r).1 = some (.map es' c') ∧ lkv q (.w (.int k 0)) kv es' = lkv q (.w (.int k 0)) kv es := by
            intro mm
            induction mm with
            | zero =>
              intro hjm _
              have hj0 : j = 0 := by omega
              subst hj0
              exact ⟨es, c, by rw [← f2, ← hview 0 (by omega)]; rfl, rfl⟩
            | succ mm ih =>
              intro hjm hmn
              rcases Nat.lt_or_ge mm j with hlt | hge
              · have hjm' : j = mm + 1 := by omega
                rw [← hjm']
                refine ⟨es, c, ?_, rfl⟩
                rw [vw_raw (D' := all) fun i hi hin => ?_, hview j (by omega)]
                · exact f2
                · show D i = true
                  by_cases h1 : ancP (ancM ops.toList []) i j
                  · exact hr i (by omega) h1
                  · by_cases h2 : ancP (ancM ops.toList []) j i
                    · have := d3 j i hj (by omega) h2; omega
                    · rcases hunord i j (by omega) hj (by omega) (heff i (by omega) r hin) h1 h2 with k' | k'
                      · rw [hya] at k'; cases k'
                      · simp only [okSp, Bool.and_eq_true] at k'
                        have := k'.1.1.2
                        rw [Nat.blt_eq] at this; omega
              · obtain ⟨es', c', g1, g2⟩ := ih hge (by omega)
                rw [vw]
                split
                · rename_i hcnd
                  obtain ⟨hDm, hin⟩ := hcnd
                  have hne : mm ≠ j := fun e => by rw [e, hDj] at hDm; cases hDm
                  have hu1 : ¬ ancP (ancM ops.toList []) mm j := fun h1 => by have := d3 mm j (by omega) hj h1; omega
                  have hu2 : ¬ ancP (ancM ops.toList []) j mm := fun h1 => by have := hc j mm hj (by omega) h1 hDm; rw [hDj] at this; cases this
                  have hsp2 : okSp true mm j (l.getD mm default) (l.getD j default) l = true := by
                    rcases hunord mm j (by omega) hj hne (heff mm (by omega) r hin) hu1 hu2 with k' | k'
                    · rw [hya] at k'; cases k'
                    · exact k'
                  simp only [okSp, Bool.and_eq_true] at hsp2
                  obtain ⟨⟨⟨_, _⟩, hs2⟩, hall⟩ := hsp2
                  obtain ⟨hg2, hxa⟩ := okSp2_spec hya hs2
                  have hslots : ∀ w, j ≤ w → w ≤ mm → ∀ p ∈ rI (l.getD j default), (ss w).get p = (ss j).get p := by
                    intro w
                    induction w with
                    | zero => intro hw _ p _; have : j = 0 := by omega
                              subst this; rfl
                    | succ w ihw =>
                      intro hw1 hw2 p hp
                      rcases Nat.lt_or_ge w j with h5 | h5
                      · have : j = w + 1 := by omega
                        subst this; rfl
                      · rw [(a5 w _ (hat w (by omega))).2, setS_get, ihw h5 (by omega) p hp]
                        have := List.all_eq_true.1 hall w (by simp; omega)
                        rw [Bool.or_eq_true, Nat.blt_eq] at this
                        intro e
                        exact dis_spec (this.resolve_left (by omega)) p e hp
                  have hrI : rI (l.getD j default) = [m, ix] := by
                    simp only [rI, hg, hya]; rfl
                  have hm1 : opd (ss mm) (.t m) = some (.w (.map r)) := by
                    have : (ss mm).get m = (ss j).get m := hslots mm hge (Nat.le_refl _) m (by rw [hrI]; simp)
                    rw [opd_t', this]; exact f1
                  have hm2 : opd (ss mm) (.t ix) = some kv.v := by
                    have : (ss mm).get ix = (ss j).get ix := hslots mm hge (Nat.le_refl _) ix (by rw [hrI]; simp)
                    rw [opd_t', this]; exact e1
                  have hrm := run0 mm (by omega)
                  rw [insV_none hg2, hxa] at hrm
                  have hrm : aMen (ss mm) (hs' mm) q (.w (.int k 0)) (.t m) (.t ix) = some (vv mm, hs' (mm + 1)) := hrm
                  have hBm : B mm = false := by simp only [B, hxa, isSp, hg2]; rfl
                  have hobj : (hs' mm).tr.get r = some (.map es' c') := by
                    rw [← hview mm (by omega), ← g1]
                    refine congrArg _ (vw_raw fun i hi hin' => ?_)
                    show true = D i
                    rcases hord mm (by omega) hBm i (by omega) (by omega) r hin' with k' | k'
                    · exact (hc i mm (by omega) (by omega) k' hDm).symm
                    · have := d3 mm i (by omega) (by omega) k'; omega
                  obtain ⟨es2, c2, n1, n2⟩ := men_lk hm1 hm2 e2 hobj hrm
                  refine ⟨es2, c2, ?_, n2.trans g2⟩
                  have hB' : ¬ B mm = true := by rw [hBm]; simp
                  simp only [hh, if_neg hB']
                  exact n1
                · exact ⟨es', c', g1, g2⟩
          obtain ⟨es', c', g1, g2⟩ := inv l.length (by omega) (Nat.le_refl _)
          refine ⟨⟨(hs' l.length).sz, Tr.put (some (.map es' c')) r .e, [], []⟩, kd, nm, hvv, rfl, mk _ (lki_mk ⟨kd, nm, hvv⟩ e1 e2 e3 (.inr ⟨r, es', c', f1, Tr.get_put_same _ _ _, u, by rw [g2]; exact f3, f4⟩)), fun b o hb ho => ?_⟩
          change Tr.get b (Tr.put _ _ _) = _ at hb
          rw [Tr.get_put] at hb
          split at hb
          · rename_i e; subst e; cases hb; exact g1
          · simp at hb
    refine pre.sound (cr := cr) (B0 := B0) (N := N) hm hF hcl hsz hoki d1 d2 hN (by rw [a1]; exact hs) sim (fun a' w' φ' q1 q2 q3 q4 q5 => ?_) t
    rw [a4] at q1 q2
    rw [a3] at q3
    exact hQ a' w' φ' q1 q2 q3 q4 q5
  | cons u0 us0 =>
    generalize hus : u0 :: us0 = us at *
    have hne : us ≠ [] := by rw [← hus]; simp
    have hemp : us.isEmpty = false := by rw [← hus]; rfl
    have hx' : drwP cl l us s h = some (s', h') := by rw [← hus] at hx ⊢; exact hx
    obtain ⟨tbl, wr', hp1, htb⟩ : ∃ tbl wr', passL cl tbl l us s h [] [] = some ((s', h'), wr') ∧ (tbl = wr' ∨ allNil wr' = true) := by
      obtain ⟨⟨s1, h1⟩, wr, e1, e2⟩ := bnd2_eq.1 (show bnd2 (passL cl [] l us s h [] []) (fun sh wr => Bool.rec (motive := fun _ => SH)
        (bnd2 (passL cl wr l us s h [] []) (fun sh wr' => guardB (sameP wr wr') (some sh))) (some sh) (allNil wr)) = some (s', h') from hx')
      cases hn : allNil wr with
      | true => rw [hn] at e2; cases e2; exact ⟨[], wr, e1, .inr hn⟩
      | false =>
        rw [hn] at e2
        obtain ⟨sh, wr', e3, e4⟩ := bnd2_eq.1 (show bnd2 (passL cl wr l us s h [] []) (fun sh wr' => guardB (sameP wr wr') (some sh)) = some (s', h') from e2)
        obtain ⟨e5, e6⟩ := guardB_eq.1 e4
        cases e6
        exact ⟨wr, wr', e3, .inl (of_decide_eq_true e5)⟩
    obtain ⟨ss, hs', vv, kt, hh, a1, a2, a3, a4, a5, a6⟩ := passL_seq hp1
    let kk : Nat → H := fun j => ⟨(hs' j).sz, kt j, [], []⟩
    have at6 := fun j hj => a6 j _ (hat j hj)
    have hrun : ∀ j, j < l.length → insV cl (ss j) (kk j) (l.getD j default) = some (vv j, hh j) := fun j hj => by
      obtain ⟨u, tr, b1, b2, b3, b4, b5, b6⟩ := at6 j hj; exact b3
    have hmono : ∀ j, j < l.length → Mono (kk j) (hh j) := fun j hj => mon_insV hmc _ _ (hrun j hj)
    have hmd : ∀ j, j < l.length → MonoD (kk j) (hh j) (hh j).log (hh j).nw := fun j hj => by
      obtain ⟨l1, n1, k⟩ := (hmono j hj).d
      have e1 : (hh j).log = l1 := by rw [k.log]; exact List.append_nil _
      have e2 : (hh j).nw = n1 := by rw [k.nw]; exact List.append_nil _
      rw [e1, e2]; exact k
    have hnil : ∀ j, j < l.length → effA (l.getD j default).a = false → (hh j).log = [] ∧ (hh j).nw = [] := fun j hj he => by
      have e : hh j = kk j := ro_insV he (hrun j hj)
      rw [e]; exact ⟨rfl, rfl⟩
    have hwr : ∀ j, j < l.length → wr'[j]? = some (hh j).log := fun j hj => by rw [a5]; simp [hj]
    have pre : Pre cl l.length h (ancP (ancM ops.toList [])) (fun _ => false) (fun j => l.getD j default) ss vv kk hh hs' (fun j => (hh j).log) (fun j => (hh j).nw) := by
      refine ⟨a2, fun j hj _ => hrun j hj, fun j hj => ?_, fun j hj => (hmono j hj).sz, hmd, fun j hj => rfl, fun j hj => ?_, fun j hj b => ?_, fun j hj => ?_, fun j hj b o hb ho => ?_, fun j hj b o hb ho => ?_, hlow, hslot, d3, (fun j hj h => by cases h), (fun j hj h => by cases h)⟩
      · obtain ⟨u, tr, b1, b2, b3, b4, b5, b6⟩ := at6 j hj; exact b4
      · obtain ⟨u, tr, b1, b2, b3, b4, b5, b6⟩ := at6 j hj; rw [b6]
      · obtain ⟨u, tr, b1, b2, b3, b4, b5, b6⟩ := at6 j hj
        rw [b6]; exact overL_get b5 b
      · obtain ⟨u, tr, b1, b2, b3, b4, b5, b6⟩ := at6 j hj; rw [b6]; exact ⟨rfl, rfl⟩
      · obtain ⟨u, tr, b1, b2, b3, b4, b5, b6⟩ := at6 j hj
        exact seen_get b2 b o hb ho
      · obtain ⟨u, tr, b1, b2, b3, b4, b5, b6⟩ := at6 j hj
        cases u with
        | none =>
          have e : kt j = .e := (Option.some.inj (show some Tr.e = some (kt j) from b2)).symm
          have hb' : (kt j).get b = some o := hb
          rw [e] at hb'; simp at hb'
        | some uj =>
          obtain ⟨m, c1, c2⟩ := bnd_eq.1 (show bnd (hid uj ([] ++ (List.range j).map (fun i => (hh i).log ++ (hh i).nw)) tbl) (fun m => killL m (hs' j).tr) = some (kt j) from b2)
          have hnm : b ∉ m := (killL_get c2 b o hb ho).2
          have hget : us.getD j none = some uj := by simp [List.getD, b1]
          have mem : ∀ i, i < l.length → i ≠ j → b ∈ (hh i).log ++ (hh i).nw → ¬ ancP (ancM ops.toList []) i j → ¬ ancP (ancM ops.toList []) j i → i ∈ uj := by
            intro i hi hij hin h1 h2
            have hpr := d4 i j hi hj hij h1 h2
            simp only [okPair, Bool.and_eq_true] at hpr
            have he : effA (l.getD i default).a = true := by
              cases he : effA (l.getD i default).a with
              | true => rfl
              | false => obtain ⟨e1, e2⟩ := hnil i hi he; rw [e1, e2] at hin; simp at hin
            have := hpr.1.2
            rw [he, hemp, hget] at this
            simp only [Bool.not_true, Bool.false_or, okUs, okSp, Bool.or_false] at this
            obtain ⟨x, q1, q2⟩ := List.any_eq_true.1 this
            rw [Nat.beq_eq] at q2
            subst q2; exact q1
          refine ⟨fun i hi hin => ?_, fun i hi hi' hin => ?_⟩
          · by_cases h1 : ancP (ancM ops.toList []) i j
            · exact .inl h1
            · by_cases h2 : ancP (ancM ops.toList []) j i
              · exact .inr h2
              · refine absurd (hid_mem c1 i (mem i (by omega) (by omega) hin h1 h2) _ (.inl ?_) b hin) hnm
                simp [hi]
          · by_cases h1 : ancP (ancM ops.toList []) i j
            · exact .inl h1
            · by_cases h2 : ancP (ancM ops.toList []) j i
              · exact .inr h2
              · rcases htb with rfl | hnl
                · refine absurd (hid_mem c1 i (mem i hi' (by omega) (List.mem_append_left _ hin) h1 h2) _ (.inr ⟨?_, hwr i hi'⟩) b hin) hnm
                  simp; omega
                · have := allNil_spec hnl _ (List.mem_of_getElem? (hwr i hi'))
                  rw [this] at hin; cases hin
    refine pre.sound (cr := cr) (B0 := B0) (N := N) hm hF hcl hsz hoki d1 d2 hN (by rw [a1]; exact hs) sim (fun a' w' φ' q1 q2 q3 q4 q5 => ?_) t
    rw [a4] at q1 q2
    rw [a3] at q3
    exact hQ a' w' φ' q1 q2 q3 q4 q5
end
end Go.Am
namespace Go.Am
open Go.RowKit
set_option autoImplicit false
set_option linter.unusedSimpArgs false
set_option linter.unusedVariables false
noncomputable def h00 : H := ⟨.h, .e, [], []⟩
def phi0 : Phi := fun _ => none
section
variable {p : Program} {okD : Array Oper → List I → List (Option (List Nat)) → Bool} {cr : CR}
theorem Sim.start (w : World) : Sim cr w.heap.size phi0 h00 w where
  fresh b _ := ⟨rfl, fun o ho => by change Tr.get b (Tr.e : Tr O) = some o at ho; simp at ho⟩
  dom b i c h := by cases h
  obj b o h := by change Tr.get b (Tr.e : Tr O) = some o at h; simp at h
  sep b b' o o' i i' c h := by change Tr.get b (Tr.e : Tr O) = some o at h; simp at h
  low b o i c h := by change Tr.get b (Tr.e : Tr O) = some o at h; simp at h
  top := Nat.le_refl _
theorem Ext.below {h' : H} {φ' : Phi} {w w' : World} (e : Ext phi0 h00 w φ' h' w') : Below w.heap.size w w' := by
  obtain ⟨l, n, a1, a2, a3, _⟩ := e.log
  exact ⟨e.os, e.tape, e.output, e.size, fun k hk => a3 k hk fun b _ i hi => by cases hi⟩
/-- what the abstract machine computes from nothing, a call computes in whatever world -/
theorem calls_of_am {cl : Call} (hcl : CallSound cr p cl) {k : P} {args : List V} {vals : List Value} {v : V} {h' : H} (hx : cl (.w (.fnc k)) args h00 = some (v, h')) (hv : RelL (RelV phi0) args vals) (w : World) :
    Calls p k.nat vals.toArray w (fun e w' => ∃ v', e = .returned v' ∧ (∃ φ', RelV φ' v v') ∧ Below w.heap.size w w') := by
  rcases hcl w.heap.size phi0 h00 w (.w (.fnc k)) (.func (.func k.nat) #[] #[]) args vals v h' hx rfl hv (Sim.start w) with ⟨f, fs, caps, fn, e1, _, _, _, e5⟩ | ⟨l, r, e1, _⟩
  · cases e1
    have e5 := callsIn_wide.1 e5
    rw [show (#[] ++ vals.toArray ++ #[] : Array Value) = vals.toArray by simp] at e5
    refine e5.mono ?_
    rintro e w' ⟨v', rfl, φ', s1, x1, r1⟩
    exact ⟨v', rfl, ⟨φ', r1⟩, x1.below⟩
  · cases e1
/-- calls that hand back plain values and leave what there was -/
def PureCall (p : Program) (k : Nat) (vals : List Value) (v : Value) : Prop := ∀ w, Calls p k vals.toArray w (fun e w' => e = .returned v ∧ Below w.heap.size w w')
theorem below_sim {cr : CR} {B0 : Nat} {φ : Phi} {h : H} {w w' : World} (b : Below w.heap.size w w') (s : Sim cr B0 φ h w) : Sim cr B0 φ h w' ∧ Ext φ h w φ h w' :=
  ⟨s.world b.size b.block, Ext.world s b.size b.block b.os b.tape b.output⟩
/-- a call of functions of which only contracts are known -/
noncomputable def clOf (spec : P → List V → Option V) : Call := fun f args h => match f with | .w (.fnc k) => bnd (spec k args) (fun v => some (v, h)) | _ => none
theorem clOf_eq {spec : P → List V → Option V} {k : P} {args : List V} {h : H} : clOf spec (.w (.fnc k)) args h = bnd (spec k args) (fun v => some (v, h)) := rfl
theorem clOf_mon (spec : P → List V → Option V) : MonCall (clOf spec) := fun f args h y hy => by
  cases f with
  | w x => cases x <;> first | (cases hy; done) | skip
           rename_i k
           obtain ⟨v, _, e⟩ := bnd_eq.1 (show bnd (spec k args) (fun v => some (v, h)) = some y from hy)
           cases e; exact Mono.refl _
  | _ => cases hy
theorem clOf_sound {spec : P → List V → Option V} (hs : ∀ k args v, spec k args = some v → (∃ fn, p.funcs[k.nat]? = some fn ∧ fn.body.isNone = false ∧ (fn.name == "runtime.NumGoroutine") = false) ∧
    ∀ φ vals, RelL (RelV φ) args vals → ∃ v', RelV φ v v' ∧ PureCall p k.nat vals v') : CallSound cr p (clOf spec) := by
  intro B0 φ h w f fv args vals v h' hx hf hv sim
  cases f with
  | a _ => cases hx
  | t _ => cases hx
  | w x =>
    cases x <;> first | (cases hx; done) | skip
    rename_i k
    obtain ⟨u, e1, e2⟩ := bnd_eq.1 (show bnd (spec k args) (fun v => some (v, h)) = some (v, h') from hx)
    cases e2
    obtain ⟨⟨fn, f1, f2, f3⟩, h2⟩ := hs k args v e1
    obtain ⟨v', r1, r2⟩ := h2 φ vals hv
    have hf : fv = .func (.func k.nat) #[] #[] := hf
    refine .inl ⟨k.nat, #[], #[], fn, hf, f1, f2, f3, ?_⟩
    refine callsIn_wide.2 ?_
    rw [show (#[] ++ vals.toArray ++ #[] : Array Value) = vals.toArray by simp]
    refine (r2 w).mono ?_
    rintro e w' ⟨rfl, b⟩
    obtain ⟨s1, x1⟩ := below_sim b sim
    exact ⟨v', rfl, φ, s1, x1, r1⟩
end
/-! the program's print, function by function -/
section
variable {p : Program} {okD : Array Oper → List I → List (Option (List Nat)) → Bool}
def AllT (okD : Array Oper → List I → List (Option (List Nat)) → Bool) (p : Program) (t : Tr F) (f : Nat → Nat) : Prop := ∀ k fd, t.get k = some fd → okF okD p (f k.nat) fd = true
theorem AllT.e {f : Nat → Nat} : AllT okD p .e f := fun k fd h => by simp at h
theorem AllT.n {l r : Tr F} {v : Option F} {f : Nat → Nat} (hl : AllT okD p l (fun n => f (2 * n + 1))) (hv : ∀ fd, v = some fd → okF okD p (f 0) fd = true) (hr : AllT okD p r (fun n => f (2 * n + 2))) : AllT okD p (.n l v r) f := fun k fd h => by
  cases k with
  | h => exact hv fd h
  | l q => exact hl q fd h
  | r q => exact hr q fd h
theorem AllT.some {fd : F} {n : Nat} (h : okF okD p n fd = true) : ∀ fd', Option.some fd = Option.some fd' → okF okD p n fd' = true := fun fd' e => by cases e; exact h
theorem AllT.none {n : Nat} : ∀ fd', (Option.none : Option F) = Option.some fd' → okF okD p n fd' = true := fun fd' e => by cases e
theorem AllT.ok {t : Tr F} (h : AllT okD p t id) : OkPr okD p (fun k => t.get k) := fun k fd e => h k fd e
end
end Go.Am
