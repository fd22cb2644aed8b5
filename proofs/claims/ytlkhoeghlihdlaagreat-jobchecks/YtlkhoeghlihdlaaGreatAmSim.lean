import Derived.Test.YtlkhoeghlihdlaaGreatAmDef
import Derived.Below
import Derived.Laws.Rows
import Derived.Laws.CopyRow
import Derived.Laws.Slices
import Derived.Laws.MakeOwn
import Derived.Laws.Tables
import Derived.Laws.Append
import Derived.Laws.AppendOwn
import Derived.Laws.Pointers
import Derived.Laws.Externs
namespace Go.Am
set_option autoImplicit false

/-- where a block of the abstract heap lies: a row from a cell on (lim: how many cells the block has, if it is the call's own); a map or a loop; what a closure holds -/
inductive Inf where
  | cells (c base : Nat) (lim : Option Nat)
  | obj (c : Nat)
  | caps (fs arr : Array Value)
def Inf.blk : Inf → Option Nat
  | .cells c _ _ => some c
  | .obj c => some c
  | .caps _ _ => none
abbrev Phi := P → Option Inf

def RelL {α β : Type} (R : α → β → Prop) : List α → List β → Prop
  | [], [] => True
  | a :: l, b :: m => R a b ∧ RelL R l m
  | _, _ => False

def RelW (φ : Phi) : W → Value → Prop
  | .int k n, v => v = .int k n
  | .bool b, v => v = .bool b
  | .str s, v => v = .string ⟨s.toArray⟩
  | .nilp, v => v = .pointer none
  | .ptr b o, v => ∃ c base lim, φ b = some (.cells c base lim) ∧ v = .pointer (some ⟨c, base + o, none⟩)
  | .nils, v => v = .slice none 0 0
  | .sl b o z len cap ex, v => ∃ c base lim off cap', φ b = some (.cells c base lim) ∧ v = .slice (some ⟨c, off, none⟩) len cap' ∧ (cap' ≠ 0 → off = base + o) ∧ len ≤ cap ∧ cap ≤ cap' ∧ (ex = true → cap' = cap) ∧
      ∀ L, lim = some L → base + o + cap' * z ≤ L
  | .nilm, v => v = .map none
  | .map r, v => ∃ c, φ r = some (.obj c) ∧ v = .map (some c)
  | .nilf, v => v = .nilFunc
  | .fnc f, v => v = .func (.func f.nat) #[] #[]
  | .fn f b, v => ∃ fs arr, φ b = some (.caps fs arr) ∧ v = .func (.func f.nat) fs arr
  | .yld l, v => ∃ c, φ l = some (.obj c) ∧ v = .func (.yield c) #[] #[]
  | .nili, v => v = .nilIface
  | .it l, v => ∃ c, φ l = some (.obj c) ∧ v = .pointer (some ⟨c, 0, none⟩)
def RelU (φ : Phi) : U → Value → Prop
  | .w x, v => RelW φ x v
  | .a cs, v => ∃ arr, v = .agg arr ∧ RelL (RelW φ) cs arr.toList
def RelV (φ : Phi) : V → Value → Prop
  | .w x, v => RelW φ x v
  | .a cs, v => ∃ arr, v = .agg arr ∧ RelL (RelW φ) cs arr.toList
  | .t us, v => ∃ arr, v = .tuple arr ∧ RelL (RelU φ) us arr.toList
def RelE (φ : Phi) (e : E) (e' : MapEntry) : Prop := RelU φ e.key e'.key ∧ RelU φ e.val e'.val ∧ e.born = e'.born
def RelS (φ : Phi) (s : S) (tmps : Array Value) : Prop := ∀ p v, s.get p = some v → ∃ v', tmps[p.nat]? = some v' ∧ RelV φ v v'

section list
variable {α β : Type} {R R' : α → β → Prop}
theorem RelL.mono (h : ∀ a b, R a b → R' a b) : ∀ {l : List α} {m : List β}, RelL R l m → RelL R' l m
  | [], [], _ => trivial
  | _ :: _, _ :: _, ⟨h1, h2⟩ => ⟨h _ _ h1, RelL.mono h h2⟩
theorem RelL.length : ∀ {l : List α} {m : List β}, RelL R l m → l.length = m.length
  | [], [], _ => rfl
  | _ :: _, _ :: _, ⟨_, h⟩ => by simp [RelL.length h]
theorem RelL.at : ∀ {l : List α} {m : List β}, RelL R l m → ∀ (j : Nat) (a : α), l[j]? = some a → ∃ b, m[j]? = some b ∧ R a b
  | [], [], _, _, _, h => by simp at h
  | x :: l, y :: m, ⟨h1, _⟩, 0, _, h => by simp at h; subst h; exact ⟨y, by simp, h1⟩
  | x :: l, y :: m, ⟨_, h2⟩, j + 1, a, h => by simpa using RelL.at h2 j a (by simpa using h)
theorem RelL.of_at : ∀ {l : List α} {m : List β}, l.length = m.length → (∀ (j : Nat) (a : α) (b : β), l[j]? = some a → m[j]? = some b → R a b) → RelL R l m
  | [], [], _, _ => trivial
  | x :: l, y :: m, hl, h => ⟨h 0 x y (by simp) (by simp), RelL.of_at (by simpa using hl) fun j a b h1 h2 => h (j + 1) a b (by simpa using h1) (by simpa using h2)⟩
theorem RelL.append : ∀ {l l' : List α} {m m' : List β}, RelL R l m → RelL R l' m' → RelL R (l ++ l') (m ++ m')
  | [], _, [], _, _, h => h
  | _ :: _, _, _ :: _, _, ⟨h1, h2⟩, h => ⟨h1, RelL.append h2 h⟩
theorem RelL.take (n : Nat) {l : List α} {m : List β} (h : RelL R l m) : RelL R (l.take n) (m.take n) := by
  induction n generalizing l m with
  | zero => trivial
  | succ n ih => match l, m, h with
    | [], [], _ => trivial
    | _ :: _, _ :: _, ⟨h1, h2⟩ => exact ⟨h1, ih h2⟩
theorem RelL.drop (n : Nat) {l : List α} {m : List β} (h : RelL R l m) : RelL R (l.drop n) (m.drop n) := by
  induction n generalizing l m with
  | zero => exact h
  | succ n ih => match l, m, h with
    | [], [], _ => trivial
    | _ :: _, _ :: _, ⟨_, h2⟩ => exact ih h2
end list

/-- b is told by φ' as by φ, wherever φ tells -/
def Le (φ φ' : Phi) : Prop := ∀ b i, φ b = some i → φ' b = some i
theorem Le.refl (φ : Phi) : Le φ φ := fun _ _ h => h
theorem Le.trans {a b c : Phi} (h : Le a b) (k : Le b c) : Le a c := fun _ _ x => k _ _ (h _ _ x)
section mono
variable {φ φ' : Phi}
theorem RelW.mono (h : Le φ φ') : ∀ {x : W} {v : Value}, RelW φ x v → RelW φ' x v
  | .int _ _, _, h' | .bool _, _, h' | .str _, _, h' | .nilp, _, h' | .nils, _, h' | .nilm, _, h' | .nilf, _, h' | .fnc _, _, h' | .nili, _, h' => h'
  | .ptr _ _, _, ⟨c, base, lim, h1, h2⟩ => ⟨c, base, lim, h _ _ h1, h2⟩
  | .sl _ _ _ _ _ _, _, ⟨c, base, lim, off, cap, h1, h2⟩ => ⟨c, base, lim, off, cap, h _ _ h1, h2⟩
  | .map _, _, ⟨c, h1, h2⟩ => ⟨c, h _ _ h1, h2⟩
  | .fn _ _, _, ⟨f, a, h1, h2⟩ => ⟨f, a, h _ _ h1, h2⟩
  | .yld _, _, ⟨c, h1, h2⟩ => ⟨c, h _ _ h1, h2⟩
  | .it _, _, ⟨c, h1, h2⟩ => ⟨c, h _ _ h1, h2⟩
theorem RelU.mono (h : Le φ φ') : ∀ {x : U} {v : Value}, RelU φ x v → RelU φ' x v
  | .w _, _, h' => RelW.mono h (φ' := φ') h'
  | .a _, _, ⟨arr, h1, h2⟩ => ⟨arr, h1, h2.mono fun _ _ => RelW.mono h⟩
theorem RelV.mono (h : Le φ φ') : ∀ {x : V} {v : Value}, RelV φ x v → RelV φ' x v
  | .w _, _, h' => RelW.mono h (φ' := φ') h'
  | .a _, _, ⟨arr, h1, h2⟩ => ⟨arr, h1, h2.mono fun _ _ => RelW.mono h⟩
  | .t _, _, ⟨arr, h1, h2⟩ => ⟨arr, h1, h2.mono fun _ _ => RelU.mono h⟩
theorem RelE.mono (h : Le φ φ') {e : E} {e' : MapEntry} (k : RelE φ e e') : RelE φ' e e' := ⟨k.1.mono h, k.2.1.mono h, k.2.2⟩
theorem RelS.mono (h : Le φ φ') {s : S} {t : Array Value} (k : RelS φ s t) : RelS φ' s t := fun p v hp => let ⟨v', h1, h2⟩ := k p v hp; ⟨v', h1, h2.mono h⟩
end mono

def O.mut : O → Bool
  | .row own _ _ => own
  | .map _ _ | .lp _ _ _ _ _ _ => true
  | _ => false

/-- how code is related to its print -/
abbrev CR := Nat → Code → Code → C → C → Prop
def RelP : Option C → Option Code → Prop
  | none, none => True
  | some (.exit i), some (.exit j) => i = j
  | some .ret, some .ret => True
  | _, _ => False
def ObjRel (cr : CR) (φ : Phi) (w : World) : O → Inf → Prop
  | .row own T0 cs, .cells c base lim => ∃ cs' T fr, w.heap[c]? = some (.cells cs' T fr) ∧ base + cs.length ≤ cs'.size ∧
      (∀ (j : Nat) (x : W), cs[j]? = some x → ∃ v, cs'[base + j]? = some v ∧ RelW φ x v) ∧ (own = true → fr = (0, 0) ∧ lim = some cs'.size ∧ T = T0 / 2 ∧ (T0 % 2 = 1 → base = 0 ∧ cs'.size = cs.length))
  | .map es clock, .obj c => ∃ es', w.heap[c]? = some (.map es' clock) ∧ RelL (RelE φ) es es'.toList
  | .caps fs us, .caps frr arr => RelL (RelU φ) fs frr.toList ∧ RelL (RelU φ) us arr.toList
  | .lp sl ps asg body pend busy, .obj c => ∃ r : Loop, w.heap[c]? = some (.loop r) ∧ r.params.toList = ps.map P.nat ∧ RelS φ sl r.tmps ∧ cr r.tmps.size r.assign r.body asg body ∧
      (busy = false → r.state = (if pend.isNone then .ready else .done)) ∧ RelP pend r.pending ∧ ∀ q ∈ ps, q.nat < r.tmps.size
  | _, _ => False

structure Sim (cr : CR) (B0 : Nat) (φ : Phi) (h : H) (w : World) : Prop where
  fresh : ∀ b, h.sz.nat ≤ b.nat → φ b = none ∧ ∀ o, h.tr.get b = some o → o = .dead
  dom : ∀ b i c, φ b = some i → i.blk = some c → c < w.heap.size
  obj : ∀ b o, h.tr.get b = some o → o ≠ .dead → ∃ i, φ b = some i ∧ ObjRel cr φ w o i
  sep : ∀ b b' o o' i i' c, h.tr.get b = some o → h.tr.get b' = some o' → o.mut = true → o' ≠ .dead → φ b = some i → φ b' = some i' → i.blk = some c → i'.blk = some c → b = b'
  low : ∀ b o i c, h.tr.get b = some o → o.mut = true → φ b = some i → i.blk = some c → B0 ≤ c
  top : B0 ≤ w.heap.size

/-- what a step may change -/
structure Ext (φ : Phi) (h : H) (w : World) (φ' : Phi) (h' : H) (w' : World) : Prop where
  old : ∀ b : P, b.nat < h.sz.nat → φ' b = φ b
  sz : h.sz.nat ≤ h'.sz.nat
  size : w.heap.size ≤ w'.heap.size
  os : w'.os = w.os
  tape : w'.tape = w.tape
  output : w'.output = w.output
  log : ∃ l n, h'.log = l ++ h.log ∧ h'.nw = n ++ h.nw ∧ (∀ c, c < w.heap.size → (∀ b ∈ l, ∀ i, φ b = some i → i.blk ≠ some c) → w'.heap[c]? = w.heap[c]?) ∧
    (∀ b : P, b.nat < h.sz.nat → b ∉ l → h'.tr.get b = h.tr.get b) ∧ (∀ b : P, h.sz.nat ≤ b.nat → b.nat < h'.sz.nat → b ∈ n) ∧
    (∀ b ∈ n, h.sz.nat ≤ b.nat ∧ b.nat < h'.sz.nat) ∧
    (∀ b i c, h.sz.nat ≤ b.nat → φ' b = some i → i.blk = some c → w.heap.size ≤ c ∨ ∃ b0 ∈ l, ∃ i0, φ b0 = some i0 ∧ i0.blk = some c) ∧
    (∀ b ∈ l, b.nat < h'.sz.nat ∧ (b.nat < h.sz.nat → ∃ o, h.tr.get b = some o ∧ o.mut = true))

theorem ObjRel.mono {cr : CR} {φ φ' : Phi} {w w' : World} (hle : Le φ φ') {o : O} {i : Inf} (hc : ∀ c, i.blk = some c → w'.heap[c]? = w.heap[c]?) (h : ObjRel cr φ w o i) : ObjRel cr φ' w' o i := by
  match o, i, h with
  | .row own _ cs, .cells c base lim, ⟨cs', T, fr, h1, h2, h3, h4⟩ =>
    exact ⟨cs', T, fr, by rw [hc c rfl, h1], h2, fun j x hx => let ⟨v, a, b⟩ := h3 j x hx; ⟨v, a, b.mono hle⟩, h4⟩
  | .map es clock, .obj c, ⟨es', h1, h2⟩ => exact ⟨es', by rw [hc c rfl, h1], h2.mono fun _ _ => RelE.mono hle⟩
  | .caps fs us, .caps frr arr, h => exact ⟨RelL.mono (fun _ _ => RelU.mono hle) h.1, RelL.mono (fun _ _ => RelU.mono hle) h.2⟩
  | .lp sl ps asg body pend busy, .obj c, ⟨r, h1, h2, h3, h4⟩ => exact ⟨r, by rw [hc c rfl, h1], h2, h3.mono hle, h4⟩

section prim
variable {cr : CR} {B0 : Nat} {φ : Phi} {h : H} {w : World}
theorem Sim.lt_of_phi (s : Sim cr B0 φ h w) {b : P} {i : Inf} (hb : φ b = some i) : b.nat < h.sz.nat := by
  rcases Nat.lt_or_ge b.nat h.sz.nat with h1 | h1
  · exact h1
  · rw [(s.fresh b h1).1] at hb; cases hb
theorem Sim.lt_of_get (s : Sim cr B0 φ h w) {b : P} {o : O} (hb : h.tr.get b = some o) (ho : o ≠ .dead) : b.nat < h.sz.nat := by
  rcases Nat.lt_or_ge b.nat h.sz.nat with h1 | h1
  · exact h1
  · exact absurd ((s.fresh b h1).2 o hb) ho
theorem O.mut_ne {o : O} (h : o.mut = true) : o ≠ .dead := fun e => by subst e; cases h
theorem Ext.le {φ' : Phi} {h' : H} {w' : World} (s : Sim cr B0 φ h w) (e : Ext φ h w φ' h' w') : Le φ φ' := fun b i hb => by
  rw [e.old b (s.lt_of_phi hb)]; exact hb
theorem Ext.refl (s : Sim cr B0 φ h w) : Ext φ h w φ h w := ⟨fun _ _ => rfl, Nat.le_refl _, Nat.le_refl _, rfl, rfl, rfl, [], [], rfl, rfl, fun _ _ _ => rfl, fun _ _ _ => rfl, fun _ h1 h2 => by omega, by simp,
  (fun b i c hb hi _ => by rw [(s.fresh b hb).1] at hi; cases hi), by simp⟩
theorem Ext.trans {φ1 φ2 : Phi} {h1 h2 : H} {w1 w2 : World} (e : Ext φ h w φ1 h1 w1) (f : Ext φ1 h1 w1 φ2 h2 w2) : Ext φ h w φ2 h2 w2 := by
  obtain ⟨l, n, a1, a2, a3, a4, a5, a6, a7, a8⟩ := e.log
  obtain ⟨l', n', b1, b2, b3, b4, b5, b6, b7, b8⟩ := f.log
  have hs := e.sz
  have hs' := f.sz
  have key : ∀ (b : P) (i : Inf) (c : Nat), φ1 b = some i → i.blk = some c → (b.nat < h.sz.nat ∧ φ b = some i) ∨ w.heap.size ≤ c ∨ ∃ b0 ∈ l, ∃ i0, φ b0 = some i0 ∧ i0.blk = some c := by
    intro b i c hi hc
    rcases Nat.lt_or_ge b.nat h.sz.nat with hb | hb
    · exact .inl ⟨hb, by rw [← e.old b hb]; exact hi⟩
    · exact .inr (a7 b i c hb hi hc)
  refine ⟨fun b hb => (f.old b (by omega)).trans (e.old b hb), Nat.le_trans e.sz f.sz, Nat.le_trans e.size f.size, f.os.trans e.os, f.tape.trans e.tape, f.output.trans e.output,
    l' ++ l, n' ++ n, by rw [b1, a1, List.append_assoc], by rw [b2, a2, List.append_assoc], ?_, ?_, ?_, ?_, ?_, ?_⟩
  · intro c hc hl
    rw [b3 c (Nat.lt_of_lt_of_le hc e.size), a3 c hc fun b hb => hl b (List.mem_append_right _ hb)]
    intro b hb i hi hcon
    rcases key b i c hi hcon with ⟨_, k⟩ | k | ⟨b0, k1, i0, k2, k3⟩
    · exact hl b (List.mem_append_left _ hb) i k hcon
    · omega
    · exact hl b0 (List.mem_append_right _ k1) i0 k2 k3
  · intro b hb hn
    rw [b4 b (by omega) fun hx => hn (List.mem_append_left _ hx), a4 b hb fun hx => hn (List.mem_append_right _ hx)]
  · intro b h3 h4
    rcases Nat.lt_or_ge b.nat h1.sz.nat with h5 | h5
    · exact List.mem_append_right _ (a5 b h3 h5)
    · exact List.mem_append_left _ (b5 b h5 h4)
  · intro b hb
    rcases List.mem_append.1 hb with hb | hb
    · have := b6 b hb; omega
    · have := a6 b hb; omega
  · intro b i c hb hi hc
    have hsz := e.size
    rcases Nat.lt_or_ge b.nat h1.sz.nat with h5 | h5
    · rw [f.old b h5] at hi
      rcases a7 b i c hb hi hc with k | ⟨b0, k1, k2⟩
      · exact .inl k
      · exact .inr ⟨b0, List.mem_append_right _ k1, k2⟩
    · rcases b7 b i c h5 hi hc with k | ⟨b0, k1, i0, k2, k3⟩
      · exact .inl (by omega)
      · rcases key b0 i0 c k2 k3 with ⟨_, k⟩ | k | ⟨b1, m1, m2⟩
        · exact .inr ⟨b0, List.mem_append_left _ k1, i0, k, k3⟩
        · exact .inl k
        · exact .inr ⟨b1, List.mem_append_right _ m1, m2⟩
  · intro b hb
    rcases List.mem_append.1 hb with hb | hb
    · refine ⟨(b8 b hb).1, fun h5 => ?_⟩
      by_cases hl : b ∈ l
      · exact (a8 b hl).2 h5
      · obtain ⟨o, k1, k2⟩ := (b8 b hb).2 (by omega)
        exact ⟨o, by rw [← a4 b h5 hl]; exact k1, k2⟩
    · exact ⟨by have := (a8 b hb).1; omega, (a8 b hb).2⟩

/-- the world has at most new blocks, or drawn -/
theorem Sim.world (s : Sim cr B0 φ h w) {w' : World} (hz : w.heap.size ≤ w'.heap.size) (hc : ∀ c, c < w.heap.size → w'.heap[c]? = w.heap[c]?) : Sim cr B0 φ h w' where
  fresh := s.fresh
  dom b i c hb hi := Nat.lt_of_lt_of_le (s.dom b i c hb hi) hz
  obj b o hb ho := let ⟨i, h1, h2⟩ := s.obj b o hb ho; ⟨i, h1, h2.mono (Le.refl _) fun c hi => hc c (s.dom b i c h1 hi)⟩
  sep := s.sep
  low := s.low
  top := Nat.le_trans s.top hz
theorem Ext.world (s : Sim cr B0 φ h w) {w' : World} (hz : w.heap.size ≤ w'.heap.size) (hc : ∀ c, c < w.heap.size → w'.heap[c]? = w.heap[c]?)
    (h1 : w'.os = w.os) (h2 : w'.tape = w.tape) (h3 : w'.output = w.output) : Ext φ h w φ h w' :=
  ⟨fun _ _ => rfl, Nat.le_refl _, hz, h1, h2, h3, [], [], rfl, rfl, fun c h _ => hc c h, fun _ _ _ => rfl, fun _ h1 h2 => by omega, by simp, (fun b i c hb hi _ => by rw [(s.fresh b hb).1] at hi; cases hi), by simp⟩

def Phi.upd (φ : Phi) (p : P) (i : Inf) : Phi := fun q => if q = p then some i else φ q
theorem Phi.upd_same (φ : Phi) (p : P) (i : Inf) : φ.upd p i p = some i := by simp [Phi.upd]
theorem Phi.upd_ne (φ : Phi) {p q : P} (i : Inf) (h : q ≠ p) : φ.upd p i q = φ q := by simp [Phi.upd, h]
theorem Sim.le_upd (s : Sim cr B0 φ h w) (i : Inf) : Le φ (φ.upd h.sz i) := fun b j hb => by
  have := s.lt_of_phi hb
  rw [Phi.upd_ne _ _ (fun e => by subst e; omega)]; exact hb
/-- a new name for something that lies in memory and that nothing else in the abstract heap names -/
theorem Sim.adopt' (s : Sim cr B0 φ h w) (o : O) (i : Inf) (hd : ∀ c, i.blk = some c → c < w.heap.size ∧ B0 ≤ c ∧ ∀ b o' j, h.tr.get b = some o' → o' ≠ .dead → φ b = some j → j.blk ≠ some c)
    (ho : o ≠ .dead → ObjRel cr (φ.upd h.sz i) w o i) : Sim cr B0 (φ.upd h.sz i) ⟨h.sz.next, Tr.put (some o) h.sz h.tr, h.log, h.sz :: h.nw⟩ w where
  fresh b hb := by
    have hb' : h.sz.nat + 1 ≤ b.nat := by simpa using hb
    have hne : b ≠ h.sz := fun e => by subst e; omega
    have := s.fresh b (by omega)
    exact ⟨by rw [Phi.upd_ne _ _ hne]; exact this.1, fun o' ho' => by change Tr.get b (Tr.put _ _ _) = _ at ho'; rw [Tr.get_put_ne _ hne] at ho'; exact this.2 o' ho'⟩
  dom b j c hb hj := by
    by_cases e : b = h.sz
    · subst e; rw [Phi.upd_same] at hb; cases hb; exact (hd c hj).1
    · rw [Phi.upd_ne _ _ e] at hb; exact s.dom b j c hb hj
  obj b o' hb hne := by
    change Tr.get b (Tr.put _ _ _) = _ at hb
    by_cases e : b = h.sz
    · subst e; rw [Tr.get_put_same] at hb; cases hb; exact ⟨i, Phi.upd_same _ _ _, ho hne⟩
    · rw [Tr.get_put_ne _ e] at hb
      obtain ⟨j, h1, h2⟩ := s.obj b o' hb hne
      exact ⟨j, by rw [Phi.upd_ne _ _ e]; exact h1, h2.mono (s.le_upd i) fun _ _ => rfl⟩
  sep b b' o1 o2 i1 i2 c h1 h2 hm hne p1 p2 k1 k2 := by
    change Tr.get _ (Tr.put _ _ _) = _ at h1 h2
    by_cases e1 : b = h.sz <;> by_cases e2 : b' = h.sz
    · rw [e1, e2]
    · subst e1
      rw [Phi.upd_same] at p1; cases p1
      rw [Phi.upd_ne _ _ e2] at p2; rw [Tr.get_put_ne _ e2] at h2
      exact absurd k2 ((hd c k1).2.2 b' o2 i2 h2 hne p2)
    · subst e2
      rw [Phi.upd_same] at p2; cases p2
      rw [Phi.upd_ne _ _ e1] at p1; rw [Tr.get_put_ne _ e1] at h1
      exact absurd k1 ((hd c k2).2.2 b o1 i1 h1 (fun e => by subst e; cases hm) p1)
    · rw [Phi.upd_ne _ _ e1] at p1; rw [Phi.upd_ne _ _ e2] at p2; rw [Tr.get_put_ne _ e1] at h1; rw [Tr.get_put_ne _ e2] at h2
      exact s.sep b b' o1 o2 i1 i2 c h1 h2 hm hne p1 p2 k1 k2
  low b o' j c hb hm hj hc := by
    change Tr.get b (Tr.put _ _ _) = _ at hb
    by_cases e : b = h.sz
    · subst e; rw [Phi.upd_same] at hj; cases hj; exact (hd c hc).2.1
    · rw [Phi.upd_ne _ _ e] at hj; rw [Tr.get_put_ne _ e] at hb; exact s.low b o' j c hb hm hj hc
  top := s.top
theorem Sim.adopt (s : Sim cr B0 φ h w) (o : O) (i : Inf) (hd : ∀ c, i.blk = some c → c < w.heap.size ∧ B0 ≤ c ∧ ∀ b o' j, h.tr.get b = some o' → o' ≠ .dead → φ b = some j → j.blk ≠ some c)
    (ho : ObjRel cr (φ.upd h.sz i) w o i) : Sim cr B0 (φ.upd h.sz i) ⟨h.sz.next, Tr.put (some o) h.sz h.tr, h.log, h.sz :: h.nw⟩ w := s.adopt' o i hd fun _ => ho
theorem Ext.adopt (s : Sim cr B0 φ h w) (o : O) (i : Inf) (hi : ∀ c, i.blk = some c → w.heap.size ≤ c ∨ False) : Ext φ h w (φ.upd h.sz i) ⟨h.sz.next, Tr.put (some o) h.sz h.tr, h.log, h.sz :: h.nw⟩ w := by
  refine ⟨fun b hb => Phi.upd_ne _ _ (fun e => by subst e; omega), by simp, Nat.le_refl _, rfl, rfl, rfl, [], [h.sz], rfl, rfl, fun _ _ _ => rfl, ?_, ?_, ?_, ?_, by simp⟩
  · intro b hb _; exact Tr.get_put_ne _ (fun e => by subst e; omega) _
  · intro b h1 h2
    have h2' : b.nat < h.sz.nat + 1 := by simpa using h2
    simp [P.nat_inj (show b.nat = h.sz.nat by omega)]
  · simp
  · intro b j c hb hj hc
    by_cases e : b = h.sz
    · subst e; rw [Phi.upd_same] at hj; cases hj; exact .inl ((hi c hc).resolve_right id)
    · rw [Phi.upd_ne _ _ e, (s.fresh b hb).1] at hj; cases hj
/-- a new block -/
theorem Sim.alloc' (s : Sim cr B0 φ h w) (o : O) (ob : Obj) (i : Inf) (hi : i.blk = some w.heap.size) (ho : o ≠ .dead → ObjRel cr (φ.upd h.sz i) (w.alloc ob) o i) :
    Sim cr B0 (φ.upd h.sz i) ⟨h.sz.next, Tr.put (some o) h.sz h.tr, h.log, h.sz :: h.nw⟩ (w.alloc ob) ∧ Ext φ h w (φ.upd h.sz i) ⟨h.sz.next, Tr.put (some o) h.sz h.tr, h.log, h.sz :: h.nw⟩ (w.alloc ob) := by
  have hc : ∀ c, c < w.heap.size → (w.alloc ob).heap[c]? = w.heap[c]? := fun c hc => heap_alloc_old w ob c hc
  have s1 := s.world (w' := w.alloc ob) (by simp) hc
  refine ⟨s1.adopt' o i (fun c e => ?_) ho, ?_⟩
  · rw [hi] at e; cases e
    exact ⟨by simp, s.top, fun b o' j _ _ hj hb => by have := s.dom b j _ hj hb; omega⟩
  · refine ⟨fun b hb => Phi.upd_ne _ _ (fun e => by subst e; omega), by simp, by simp, rfl, rfl, rfl, [], [h.sz], rfl, rfl, fun c h _ => hc c h, ?_, ?_, ?_, ?_, by simp⟩
    · intro b hb _; exact Tr.get_put_ne _ (fun e => by subst e; omega) _
    · intro b h1 h2
      have h2' : b.nat < h.sz.nat + 1 := by simpa using h2
      simp [P.nat_inj (show b.nat = h.sz.nat by omega)]
    · simp
    · intro b j c hb hj hc
      by_cases e : b = h.sz
      · subst e; rw [Phi.upd_same] at hj; cases hj; rw [hi] at hc; cases hc; exact .inl (Nat.le_refl _)
      · rw [Phi.upd_ne _ _ e, (s.fresh b hb).1] at hj; cases hj
theorem Sim.alloc (s : Sim cr B0 φ h w) (o : O) (ob : Obj) (i : Inf) (hi : i.blk = some w.heap.size) (ho : ObjRel cr (φ.upd h.sz i) (w.alloc ob) o i) :
    Sim cr B0 (φ.upd h.sz i) ⟨h.sz.next, Tr.put (some o) h.sz h.tr, h.log, h.sz :: h.nw⟩ (w.alloc ob) ∧ Ext φ h w (φ.upd h.sz i) ⟨h.sz.next, Tr.put (some o) h.sz h.tr, h.log, h.sz :: h.nw⟩ (w.alloc ob) := s.alloc' o ob i hi fun _ => ho
/-- a block that is the call's own is written, or let go -/
theorem Sim.write' (s : Sim cr B0 φ h w) {b : P} {o o' : O} {i : Inf} {c : Nat} {w' : World} (hb : h.tr.get b = some o) (hm : o.mut = true) (hi : φ b = some i) (hc : i.blk = some c)
    (hz : w'.heap.size = w.heap.size) (hk : ∀ k, k ≠ c → w'.heap[k]? = w.heap[k]?) (h1 : w'.os = w.os) (h2 : w'.tape = w.tape) (h3 : w'.output = w.output)
    (ho : o' = .dead ∨ ObjRel cr φ w' o' i) :
    Sim cr B0 φ ⟨h.sz, Tr.put (some o') b h.tr, b :: h.log, h.nw⟩ w' ∧ Ext φ h w φ ⟨h.sz, Tr.put (some o') b h.tr, b :: h.log, h.nw⟩ w' := by
  have hdead : o ≠ .dead := fun e => by subst e; cases hm
  have hlt := s.lt_of_get hb hdead
  constructor
  · exact {
      fresh := fun q hq => ⟨(s.fresh q hq).1, fun o1 h1 => by change Tr.get q (Tr.put _ _ _) = _ at h1; rw [Tr.get_put_ne _ (fun e => by subst e; exact absurd hlt (by simpa using hq))] at h1; exact (s.fresh q hq).2 o1 h1⟩
      dom := fun q j d hq hj => by rw [hz]; exact s.dom q j d hq hj
      obj := fun q o1 hq hne => by
        change Tr.get q (Tr.put _ _ _) = _ at hq
        by_cases e : q = b
        · subst e; rw [Tr.get_put_same] at hq; cases hq; exact ⟨i, hi, (ho.resolve_left hne)⟩
        · rw [Tr.get_put_ne _ e] at hq
          obtain ⟨j, k1, k2⟩ := s.obj q o1 hq hne
          exact ⟨j, k1, k2.mono (Le.refl _) fun d hd => hk d (fun ed => by subst ed; exact e (s.sep b q o o1 i j d hb hq hm hne hi k1 hc hd).symm)⟩
      sep := fun q q' o1 o2 i1 i2 d k1 k2 m1 m2 p1 p2 x1 x2 => by
        change Tr.get _ (Tr.put _ _ _) = _ at k1 k2
        by_cases e1 : q = b <;> by_cases e2 : q' = b
        · rw [e1, e2]
        · subst e1; rw [Tr.get_put_ne _ e2] at k2; exact s.sep q q' o o2 i1 i2 d hb k2 hm m2 p1 p2 x1 x2
        · subst e2; rw [Tr.get_put_ne _ e1] at k1; exact s.sep q q' o1 o i1 i2 d k1 hb m1 hdead p1 p2 x1 x2
        · rw [Tr.get_put_ne _ e1] at k1; rw [Tr.get_put_ne _ e2] at k2; exact s.sep q q' o1 o2 i1 i2 d k1 k2 m1 m2 p1 p2 x1 x2
      low := fun q o1 j d hq m hj hd => by
        change Tr.get q (Tr.put _ _ _) = _ at hq
        by_cases e : q = b
        · subst e; exact s.low q o j d hb hm hj hd
        · rw [Tr.get_put_ne _ e] at hq; exact s.low q o1 j d hq m hj hd
      top := by rw [hz]; exact s.top }
  · refine ⟨fun _ _ => rfl, Nat.le_refl _, Nat.le_of_eq hz.symm, h1, h2, h3, [b], [], rfl, rfl, ?_, ?_, fun _ h1 h2 => by simp at h2; omega, by simp, (fun q j d hq hj _ => by rw [(s.fresh q hq).1] at hj; cases hj), fun q hq => by
      have e := List.mem_singleton.1 hq; subst e; exact ⟨hlt, fun _ => ⟨o, hb, hm⟩⟩⟩
    · intro k _ hl; exact hk k fun e => by subst e; exact hl b (by simp) i hi hc
    · intro q _ hn; exact Tr.get_put_ne _ (by simpa using hn) _
theorem Sim.write (s : Sim cr B0 φ h w) {b : P} {o o' : O} {i : Inf} {c : Nat} {w' : World} (hb : h.tr.get b = some o) (hm : o.mut = true) (hi : φ b = some i) (hc : i.blk = some c)
    (hz : w'.heap.size = w.heap.size) (hk : ∀ k, k ≠ c → w'.heap[k]? = w.heap[k]?) (h1 : w'.os = w.os) (h2 : w'.tape = w.tape) (h3 : w'.output = w.output)
    (ho : o' = .dead ∨ (o'.mut = true ∧ ObjRel cr φ w' o' i)) :
    Sim cr B0 φ ⟨h.sz, Tr.put (some o') b h.tr, b :: h.log, h.nw⟩ w' ∧ Ext φ h w φ ⟨h.sz, Tr.put (some o') b h.tr, b :: h.log, h.nw⟩ w' :=
  s.write' hb hm hi hc hz hk h1 h2 h3 (ho.imp id And.right)
end prim
end Go.Am
namespace Go.Am
set_option autoImplicit false
set_option linter.unusedSimpArgs false
set_option linter.unusedVariables false

def okW (v : Value) (x : W) : Bool :=
  match v, x with
  | .int k n, .int k' n' => decide (k = k') && decide (n = n')
  | .bool b, .bool b' => b == b'
  | .string s, .str l => decide (s.data.toList = l)
  | .pointer none, .nilp => true
  | .slice none 0 0, .nils => true
  | .map none, .nilm => true
  | .nilFunc, .nilf => true
  | .nilIface, .nili => true
  | _, _ => false
def okWL : List Value → List W → Bool
  | [], [] => true
  | v :: l, x :: m => okW v x && okWL l m
  | _, _ => false
def okV (v : Value) (x : V) : Bool :=
  match v, x with
  | .agg arr, .a cs => okWL arr.toList cs
  | .tuple arr, .t us => arr.isEmpty && us.isEmpty
  | v, .w x => okW v x
  | _, _ => false
def okU (v : Value) (x : U) : Bool :=
  match v, x with
  | .agg arr, .a cs => okWL arr.toList cs
  | v, .w x => okW v x
  | _, _ => false
def okO (y : Operand) (x : Opd) : Bool :=
  match y, x with
  | .tmp t, .t p => Nat.beq p.nat t
  | .const v, .c c => okV v c
  | .func f, .c (.w (.fnc p)) => Nat.beq p.nat f
  | _, _ => false
def okOL : List Operand → List Opd → Bool
  | [], [] => true
  | y :: l, x :: m => okO y x && okOL l m
  | _, _ => false

theorem okW_rel {v : Value} {x : W} (h : okW v x = true) (φ : Phi) : RelW φ x v := by
  unfold okW at h
  split at h <;> simp_all [RelW]
  rename_i s l
  cases s
  subst h
  simp
theorem okWL_rel (φ : Phi) : ∀ {l : List Value} {m : List W}, okWL l m = true → RelL (RelW φ) m l
  | [], [], _ => trivial
  | _ :: _, _ :: _, h => by simp [okWL] at h; exact ⟨okW_rel h.1 φ, okWL_rel φ h.2⟩
  | [], _ :: _, h => by simp [okWL] at h
  | _ :: _, [], h => by simp [okWL] at h
theorem okV_rel {v : Value} {x : V} (h : okV v x = true) (φ : Phi) : RelV φ x v := by
  unfold okV at h
  split at h
  · exact ⟨_, rfl, okWL_rel φ h⟩
  · simp at h; obtain ⟨rfl, rfl⟩ := h; exact ⟨_, rfl, trivial⟩
  · exact okW_rel h φ
  · cases h
theorem okU_rel {v : Value} {x : U} (h : okU v x = true) (φ : Phi) : RelU φ x v := by
  unfold okU at h
  split at h
  · exact ⟨_, rfl, okWL_rel φ h⟩
  · exact okW_rel h φ
  · cases h
theorem okO_rel {φ : Phi} {s : S} {a : Act} (hs : RelS φ s a.tmps) {y : Operand} {x : Opd} (h : okO y x = true) {v : V} (hv : opd s x = some v) : RelV φ v (a.eval y) := by
  unfold okO at h
  split at h
  · rename_i t p
    rw [Nat.beq_eq] at h
    obtain ⟨v', h1, h2⟩ := hs p v hv
    rw [h] at h1
    simp only [Act.eval, Array.getD_eq_getD_getElem?, h1]
    exact h2
  · cases hv; exact okV_rel h φ
  · cases hv; rw [Nat.beq_eq] at h; simp [RelV, RelW, Act.eval, h]
  · cases h
theorem opds_rel {φ : Phi} {s : S} {a : Act} (hs : RelS φ s a.tmps) : ∀ {ys : List Operand} {xs : List Opd} {vs : List V}, okOL ys xs = true → opds s xs = some vs → RelL (RelV φ) vs (ys.map a.eval)
  | [], [], _, _, hv => by cases hv; trivial
  | y :: ys, x :: xs, vs, h, hv => by
    simp [okOL] at h
    change bnd (opd s x) _ = _ at hv
    obtain ⟨v, h1, h2⟩ := bnd_eq.1 hv
    obtain ⟨vs', h3, h4⟩ := bnd_eq.1 h2
    cases h4
    exact ⟨okO_rel hs h.1 h1, opds_rel hs h.2 h3⟩
  | [], _ :: _, _, h, _ => by simp [okOL] at h
  | _ :: _, [], _, h, _ => by simp [okOL] at h
theorem opdsU_rel {φ : Phi} {s : S} {a : Act} (hs : RelS φ s a.tmps) : ∀ {ys : List Operand} {xs : List Opd} {vs : List U}, okOL ys xs = true → opdsU s xs = some vs → RelL (RelU φ) vs (ys.map a.eval)
  | [], [], _, _, hv => by cases hv; trivial
  | y :: ys, x :: xs, vs, h, hv => by
    simp [okOL] at h
    change bnd (opd s x) _ = _ at hv
    obtain ⟨v, h1, h2⟩ := bnd_eq.1 hv
    have hr := okO_rel hs h.1 h1
    cases v with
    | w x =>
      obtain ⟨vs', h3, h4⟩ := bnd_eq.1 h2
      cases h4
      exact ⟨hr, opdsU_rel hs h.2 h3⟩
    | a x =>
      obtain ⟨vs', h3, h4⟩ := bnd_eq.1 h2
      cases h4
      exact ⟨hr, opdsU_rel hs h.2 h3⟩
    | t x => cases h2
  | [], _ :: _, _, h, _ => by simp [okOL] at h
  | _ :: _, [], _, h, _ => by simp [okOL] at h

/-! a value's cells -/
theorem RelW.one {φ : Phi} {x : W} {v : Value} (h : RelW φ x v) : v.oneCell' = true ∧ v.cells = #[v] := by
  cases x <;> simp only [RelW] at h
  case ptr => obtain ⟨_, _, _, _, rfl⟩ := h; exact ⟨rfl, rfl⟩
  case sl => obtain ⟨_, _, _, _, _, _, rfl, _⟩ := h; exact ⟨rfl, rfl⟩
  case map => obtain ⟨_, _, rfl⟩ := h; exact ⟨rfl, rfl⟩
  case fn => obtain ⟨_, _, _, rfl⟩ := h; exact ⟨rfl, rfl⟩
  case yld => obtain ⟨_, _, rfl⟩ := h; exact ⟨rfl, rfl⟩
  case it => obtain ⟨_, _, rfl⟩ := h; exact ⟨rfl, rfl⟩
  all_goals subst h; exact ⟨rfl, rfl⟩
theorem RelL.one {φ : Phi} : ∀ {l : List W} {m : List Value}, RelL (RelW φ) l m → ∀ v ∈ m, v.oneCell' = true
  | [], [], _, _, h => by cases h
  | _ :: _, _ :: _, ⟨h1, h2⟩, v, h => by
    rcases List.mem_cons.1 h with rfl | h
    · exact h1.one.1
    · exact RelL.one h2 v h
/-- the cells of a value that is no tuple -/
def V.cs : V → Option (List W)
  | .w x => some [x]
  | .a cs => some cs
  | .t _ => none
theorem onCells_eq {β : Type} {v : V} {f : List W → Option β} {b : β} : onCells v f = some b ↔ ∃ cs, v.cs = some cs ∧ f cs = some b := by
  cases v <;> simp [onCells, V.cs]
theorem RelV.cells {φ : Phi} {v : V} {v' : Value} (h : RelV φ v v') {cs : List W} (hc : v.cs = some cs) : RelL (RelW φ) cs v'.cells.toList := by
  cases v with
  | w x => cases hc; rw [(RelW.one h).2]; exact ⟨h, trivial⟩
  | a x => cases hc; obtain ⟨arr, rfl, h⟩ := h; exact h
  | t x => cases hc
theorem onW_eq {β : Type} {v : V} {f : W → Option β} {b : β} : onW v f = some b ↔ ∃ x, v = .w x ∧ f x = some b := by cases v <;> simp [onW]
theorem onU_eq {β : Type} {v : V} {f : U → Option β} {b : β} : onU v f = some b ↔ ∃ u : U, v = u.v ∧ f u = some b := by
  cases v with
  | w x => exact ⟨fun h => ⟨.w x, rfl, h⟩, fun ⟨u, h1, h2⟩ => by cases u <;> cases h1; exact h2⟩
  | a x => exact ⟨fun h => ⟨.a x, rfl, h⟩, fun ⟨u, h1, h2⟩ => by cases u <;> cases h1; exact h2⟩
  | t x => exact ⟨fun h => (by cases h), fun ⟨u, h1, h2⟩ => (by cases u <;> cases h1)⟩
theorem RelU.v {φ : Phi} {u : U} {v : Value} : RelV φ u.v v ↔ RelU φ u v := by cases u <;> exact Iff.rfl
theorem onAgg_eq {β : Type} {v : V} {f : List W → Option β} {b : β} : onAgg v f = some b ↔ ∃ x, v = .a x ∧ f x = some b := by cases v <;> simp [onAgg]
theorem onTup_eq {β : Type} {v : V} {f : List U → Option β} {b : β} : onTup v f = some b ↔ ∃ x, v = .t x ∧ f x = some b := by cases v <;> simp [onTup]
section
variable {β : Type} {b : β}
theorem onPtr_eq {v : V} {f : P → Nat → Option β} : onPtr v f = some b ↔ ∃ p o, v = .w (.ptr p o) ∧ f p o = some b := by
  rw [onPtr, onW_eq]
  constructor
  · rintro ⟨x, rfl, h⟩; cases x <;> first | (cases h; done) | exact ⟨_, _, rfl, h⟩
  · rintro ⟨p, o, rfl, h⟩; exact ⟨_, rfl, h⟩
theorem onMap_eq {v : V} {f : P → Option β} : onMap v f = some b ↔ ∃ p, v = .w (.map p) ∧ f p = some b := by
  rw [onMap, onW_eq]
  constructor
  · rintro ⟨x, rfl, h⟩; cases x <;> first | (cases h; done) | exact ⟨_, rfl, h⟩
  · rintro ⟨p, rfl, h⟩; exact ⟨_, rfl, h⟩
theorem onBool_eq {v : V} {t e : Option β} : onBool v t e = some b ↔ (v = .w (.bool true) ∧ t = some b) ∨ (v = .w (.bool false) ∧ e = some b) := by
  rw [onBool, onW_eq]
  constructor
  · rintro ⟨x, rfl, h⟩
    cases x <;> try (cases h; done)
    rename_i c
    cases c
    · exact .inr ⟨rfl, h⟩
    · exact .inl ⟨rfl, h⟩
  · rintro (⟨rfl, h⟩ | ⟨rfl, h⟩) <;> exact ⟨_, rfl, h⟩
theorem onInt_eq {v : V} {f : IntKind → Int → Option β} : onInt v f = some b ↔ ∃ k n, v = .w (.int k n) ∧ f k n = some b := by
  rw [onInt, onW_eq]
  constructor
  · rintro ⟨x, rfl, h⟩; cases x <;> first | (cases h; done) | exact ⟨_, _, rfl, h⟩
  · rintro ⟨p, o, rfl, h⟩; exact ⟨_, rfl, h⟩
theorem onNat_eq {v : V} {f : Nat → Option β} : onNat v f = some b ↔ ∃ k n, v = .w (.int k (Int.ofNat n)) ∧ f n = some b := by
  rw [onNat, onW_eq]
  constructor
  · rintro ⟨x, rfl, h⟩
    cases x <;> try (cases h; done)
    rename_i k n
    cases n
    · exact ⟨_, _, rfl, h⟩
    · cases h
  · rintro ⟨p, o, rfl, h⟩; exact ⟨_, rfl, h⟩
theorem onSl_eq {v : V} {f : P → Nat → Nat → Nat → Nat → Bool → Option β} : onSl v f = some b ↔ ∃ p o z l c e, v = .w (.sl p o z l c e) ∧ f p o z l c e = some b := by
  rw [onSl, onW_eq]
  constructor
  · rintro ⟨x, rfl, h⟩; cases x <;> first | (cases h; done) | exact ⟨_, _, _, _, _, _, rfl, h⟩
  · rintro ⟨p, o, z, l, c, e, rfl, h⟩; exact ⟨_, rfl, h⟩
theorem atRow_eq {h : H} {p : P} {f : Bool → Nat → List W → Option β} : atRow h p f = some b ↔ ∃ own T cs, h.tr.get p = some (.row own T cs) ∧ f own T cs = some b := by
  rw [atRow, bnd_eq]
  constructor
  · rintro ⟨o, h1, h2⟩; cases o <;> first | (cases h2; done) | exact ⟨_, _, _, h1, h2⟩
  · rintro ⟨_, _, _, h1, h2⟩; exact ⟨_, h1, h2⟩
theorem atOwn_eq {h : H} {p : P} {f : Nat → List W → Option β} : atOwn h p f = some b ↔ ∃ T cs, h.tr.get p = some (.row true T cs) ∧ f T cs = some b := by
  rw [atOwn, atRow_eq]
  constructor
  · rintro ⟨own, T, cs, h1, h2⟩; obtain ⟨rfl, h3⟩ := guardB_eq.1 h2; exact ⟨_, _, h1, h3⟩
  · rintro ⟨_, _, h1, h2⟩; exact ⟨_, _, _, h1, h2⟩
theorem atMap_eq {h : H} {p : P} {f : List E → Nat → Option β} : atMap h p f = some b ↔ ∃ es c, h.tr.get p = some (.map es c) ∧ f es c = some b := by
  rw [atMap, bnd_eq]
  constructor
  · rintro ⟨o, h1, h2⟩; cases o <;> first | (cases h2; done) | exact ⟨_, _, h1, h2⟩
  · rintro ⟨_, _, h1, h2⟩; exact ⟨_, h1, h2⟩
end
theorem headO_eq {α β : Type} {l : List α} {f : α → Option β} {b : β} : headO l f = some b ↔ ∃ x, l[0]? = some x ∧ f x = some b := by
  cases l <;> simp
theorem iInt_eq (k : IntKind) (n : Int) : iInt k n = some (.w (.int k n)) := by simp [iInt]
theorem iBool_eq (b : Bool) : iBool b = some (.w (.bool b)) := by simp [iBool]
end Go.Am
namespace Go.Am
set_option autoImplicit false
set_option linter.unusedSimpArgs false
set_option linter.unusedVariables false

/-- what an operation owes -/
def Res (cr : CR) (B0 : Nat) (φ : Phi) (h : H) (w : World) (v : V) (h' : H) (v' : Value) (w' : World) : Prop := ∃ φ', Sim cr B0 φ' h' w' ∧ Ext φ h w φ' h' w' ∧ RelV φ' v v'
def Exec (p : Program) (ρ : Operand → Value) (o : Oper) (w : World) (R : Value → World → Prop) : Prop :=
  ∃ v w', ((execOp ρ o).run p w = .ok (.value v) w' ∨ ((execOp ρ o).run p w = .ok .skip w' ∧ v = undef)) ∧ R v w'
section
variable {cr : CR} {B0 : Nat} {φ : Phi} {h h' : H} {w : World} {p : Program} {o : Oper} {s : S} {a : Act} {v : V}
theorem Res.same (sim : Sim cr B0 φ h w) {v' : Value} (hr : RelV φ v v') : Res cr B0 φ h w v h v' w := ⟨φ, sim, Ext.refl sim, hr⟩
theorem Exec.val {ρ : Operand → Value} {R : Value → World → Prop} {v' : Value} {w' : World} (e : (execOp ρ o).run p w = .ok (.value v') w') (r : R v' w') : Exec p ρ o w R := ⟨v', w', .inl e, r⟩

theorem op_mv {y : Operand} {x : Opd} (ho : o.op = .move y ∨ o.op = .assign y) (hy : okO y x = true) (hs : RelS φ s a.tmps) (sim : Sim cr B0 φ h w)
    (hx : aMv s h x = some (v, h')) : Exec p a.eval o w (Res cr B0 φ h w v h') := by
  obtain ⟨v1, h1, h2⟩ := bnd_eq.1 hx
  cases h2
  refine Exec.val (v' := a.eval y) (w' := w) ?_ (Res.same sim (okO_rel hs hy h1))
  rcases ho with ho | ho <;> simp [execOp, ho]
theorem op_pick {c y z : Operand} {xc x1 x2 : Opd} (ho : o.op = .pick c y z) (hc : okO c xc = true) (hy : okO y x1 = true) (hz : okO z x2 = true) (hs : RelS φ s a.tmps) (sim : Sim cr B0 φ h w)
    (hx : aPick s h xc x1 x2 = some (v, h')) : Exec p a.eval o w (Res cr B0 φ h w v h') := by
  obtain ⟨vc, h1, h2⟩ := bnd_eq.1 hx
  have hrc := okO_rel hs hc h1
  rcases onBool_eq.1 h2 with ⟨rfl, h2⟩ | ⟨rfl, h2⟩
  · obtain ⟨v1, h3, h4⟩ := bnd_eq.1 h2
    cases h4
    have hc' : a.eval c = .bool true := hrc
    exact Exec.val (v' := a.eval y) (w' := w) (by simp [execOp, ho, hc', asBool]) (Res.same sim (okO_rel hs hy h3))
  · obtain ⟨v1, h3, h4⟩ := bnd_eq.1 h2
    cases h4
    have hc' : a.eval c = .bool false := hrc
    exact Exec.val (v' := a.eval z) (w' := w) (by simp [execOp, ho, hc', asBool]) (Res.same sim (okO_rel hs hz h3))

/-! types -/
def isAggT (p : Program) (t : TypeId) : Bool := match p.underlying t with | some (.struct _) => true | some (.array _ _) => true | _ => false
def sizeIs (p : Program) (t : TypeId) (n : Nat) : Bool := match p.info? t with | some i => Nat.beq i.size n | none => false
theorem sizeIs_eq {t n : Nat} (h : sizeIs p t n = true) : ∃ i, p.info? t = some i ∧ i.size = n := by
  unfold sizeIs at h
  split at h
  · rename_i i hi; exact ⟨i, hi, by simpa using h⟩
  · cases h
theorem run_size {t n : Nat} (h : sizeIs p t n = true) (w : World) : (sizeOf t).run p w = .ok n w := by
  obtain ⟨i, h1, h2⟩ := sizeIs_eq h
  simp [sizeOf, typeInfo, h1, h2]
theorem run_agg_true {t : Nat} (h : isAggT p t = true) (w : World) : (isAgg t).run p w = .ok true w := by
  unfold isAggT at h
  unfold isAgg
  split at h
  · rename_i f hf; rw [Sem.run_bind, run_underlying hf w]; rfl
  · rename_i f hf e; rw [Sem.run_bind, run_underlying e w]; rfl
  · cases h
theorem run_agg_false {t : Nat} (h : isAggT p t = false) (hs : (p.underlying t).isSome = true) (w : World) : (isAgg t).run p w = .ok false w := by
  obtain ⟨d, hd⟩ := Option.isSome_iff_exists.1 hs
  unfold isAggT at h
  unfold isAgg
  rw [Sem.run_bind, run_underlying hd w]
  rw [hd] at h
  cases d <;> first | rfl | cases h
/-- how a part of type t is read: n cells as a struct, or one cell -/
def okN (p : Program) (t : TypeId) (n : Option Nat) : Bool :=
  match n with
  | some n => isAggT p t && sizeIs p t n
  | none => !isAggT p t && (p.underlying t).isSome

theorem addr_add (c o j : Nat) : (⟨c, o, none⟩ : Addr).add j = ⟨c, o + j, none⟩ := by unfold Addr.add; split <;> simp_all
theorem row_part {own : Bool} {T : Nat} {cs : List W} {c base : Nat} {lim : Option Nat} (hr : ObjRel cr φ w (.row own T cs) (.cells c base lim)) {off n : Nat} (hn : off + n ≤ cs.length) :
    ∃ l : List Value, l.length = n ∧ RelL (RelW φ) ((cs.drop off).take n) l ∧ ∀ j v, l[j]? = some v → w.cell? ((⟨c, base + off, none⟩ : Addr).add j) = some v := by
  obtain ⟨cs', T', fr, h1, h2, h3, _⟩ := hr
  have hlen : ((cs'.toList.drop (base + off)).take n).length = n := by simp; omega
  refine ⟨(cs'.toList.drop (base + off)).take n, hlen, RelL.of_at (by simp; omega) ?_, ?_⟩
  · intro j x v hx hv
    rw [List.getElem?_take, List.getElem?_drop] at hx hv
    split at hx
    · obtain ⟨v', k1, k2⟩ := h3 (off + j) x hx
      rename_i hj
      simp only [hj, if_true] at hv
      rw [show base + off + j = base + (off + j) by omega] at hv
      rw [Array.getElem?_toList, k1] at hv
      cases hv; exact k2
    · cases hx
  · intro j v hv
    rw [List.getElem?_take] at hv
    split at hv
    · rw [List.getElem?_drop, Array.getElem?_toList] at hv
      rw [addr_add]
      simp [World.cell?, h1, hv]
    · cases hv
theorem run_cells {c o : Nat} {l : List Value} (h : ∀ j v, l[j]? = some v → w.cell? ((⟨c, o, none⟩ : Addr).add j) = some v) : (loadCells ⟨c, o, none⟩ l.length).run p w = .ok l.toArray w :=
  run_loadCells_list (P := p) w ⟨c, o, none⟩ l h
theorem cellN_run {own : Bool} {T : Nat} {cs : List W} {c base : Nat} {lim : Option Nat} (hr : ObjRel cr φ w (.row own T cs) (.cells c base lim)) {off : Nat} {n : Option Nat} {t : TypeId} (hn : okN p t n = true)
    (hc : cellN n (dropX off cs) = some v) : ∃ v', (loadVar t ⟨c, base + off, none⟩).run p w = .ok v' w ∧ RelV φ v v' := by
  cases n with
  | none =>
    simp [okN] at hn
    obtain ⟨x, h1, h2⟩ := headO_eq.1 (show headO (dropX off cs) (fun x => some (V.w x)) = some v from hc)
    cases h2
    rw [dropX_eq, List.getElem?_drop] at h1
    have hlt : off < cs.length := by have := (List.getElem?_eq_some_iff.1 h1).1; omega
    obtain ⟨l, k1, k2, k3⟩ := row_part hr (off := off) (n := 1) (by omega)
    match l, k1, k2, k3 with
    | [v'], _, k2, k3 =>
      have hx : (cs.drop off).take 1 = [x] := by
        rw [List.take_one, List.head?_drop]
        simp [show cs[off]? = some x from h1]
      rw [hx] at k2
      have hcell := k3 0 v' rfl
      rw [addr_add, Nat.add_zero] at hcell
      refine ⟨v', ?_, k2.1⟩
      unfold loadVar
      rw [Sem.run_bind, run_agg_false hn.1 hn.2]
      simp [hcell]
  | some n =>
    simp [okN] at hn
    obtain ⟨l, h1, h2⟩ := bnd_eq.1 (show bnd (takeX n (dropX off cs)) (fun l => some (V.a l)) = some v from hc)
    cases h2
    rw [dropX_eq] at h1
    obtain ⟨h3, rfl⟩ := takeX_eq.1 h1
    rcases Nat.eq_zero_or_pos n with e | e
    · subst e
      refine ⟨.agg #[], ?_, ⟨_, rfl, by simp [RelL]⟩⟩
      unfold loadVar
      simp [Sem.run_bind, run_agg_true hn.1, run_size hn.2, loadCells, loadCellsFrom]
    obtain ⟨l, k1, k2, k3⟩ := row_part hr (off := off) (n := n) (by simp at h3; omega)
    refine ⟨.agg l.toArray, ?_, ⟨_, rfl, by simpa using k2⟩⟩
    unfold loadVar
    have hrun := run_cells (p := p) k3
    rw [k1] at hrun
    simp [Sem.run_bind, run_agg_true hn.1, run_size hn.2, hrun]
/-- a pointer's row -/
theorem Sim.row (sim : Sim cr B0 φ h w) {b : P} {own : Bool} {T : Nat} {cs : List W} (hb : h.tr.get b = some (.row own T cs)) : ∃ c base lim, φ b = some (.cells c base lim) ∧ ObjRel cr φ w (.row own T cs) (.cells c base lim) := by
  obtain ⟨i, h1, h2⟩ := sim.obj b _ hb (by simp)
  match i, h2 with
  | .cells c base lim, h2 => exact ⟨c, base, lim, h1, h2⟩
theorem Sim.mapObj (sim : Sim cr B0 φ h w) {b : P} {es : List E} {clock : Nat} (hb : h.tr.get b = some (.map es clock)) : ∃ c es', φ b = some (.obj c) ∧ w.heap[c]? = some (.map es' clock) ∧ RelL (RelE φ) es es'.toList := by
  obtain ⟨i, h1, h2⟩ := sim.obj b _ hb (by simp)
  match i, h2 with
  | .obj c, ⟨es', k1, k2⟩ => exact ⟨c, es', h1, k1, k2⟩

theorem op_ld {t : TypeId} {y : Operand} {n : Option Nat} {x : Opd} (ho : o.op = .load t y) (hy : okO y x = true) (hn : okN p t n = true) (hs : RelS φ s a.tmps) (sim : Sim cr B0 φ h w)
    (hx : aLd s h n x = some (v, h')) : Exec p a.eval o w (Res cr B0 φ h w v h') := by
  obtain ⟨v1, h1, h2⟩ := bnd_eq.1 hx
  obtain ⟨b, off, rfl, h2⟩ := onPtr_eq.1 h2
  obtain ⟨own, T, cs, h3, h2⟩ := atRow_eq.1 h2
  obtain ⟨v2, h4, h2⟩ := bnd_eq.1 h2
  cases h2
  obtain ⟨c, base, lim, k1, k3⟩ := okO_rel hs hy h1
  obtain ⟨c', base', lim', k4, k5⟩ := sim.row h3
  rw [k1] at k4; cases k4
  obtain ⟨v', k6, k7⟩ := cellN_run k5 hn h4
  exact Exec.val (v' := v') (w' := w) (by simp [execOp, ho, Instr.loadAt, k3, Instr.sureAddr, k6]) (Res.same sim k7)
end
end Go.Am
namespace Go.Am
set_option autoImplicit false
set_option linter.unusedSimpArgs false
set_option linter.unusedVariables false
section
variable {cr : CR} {B0 : Nat} {φ : Phi} {h h' : H} {w : World} {p : Program} {o : Oper} {s : S} {a : Act} {v : V}

/-- cells of a row of the call's own are overwritten, at most one block's room -/
theorem row_write {T : Nat} {cs xs : List W} {c base : Nat} {lim : Option Nat} {vs : List Value} {off : Nat} (hr : ObjRel cr φ w (.row true T cs) (.cells c base lim)) (hv : RelL (RelW φ) xs vs)
    (ho : off ≤ cs.length) (hl : ∀ L, lim = some L → base + off + xs.length ≤ L) (hfit : T % 2 = 1 → off + xs.length ≤ cs.length) :
    ∃ w', (storeCells ⟨c, base + off, none⟩ vs).run p w = .ok () w' ∧ w'.heap.size = w.heap.size ∧ (∀ k, k ≠ c → w'.heap[k]? = w.heap[k]?) ∧ w'.os = w.os ∧ w'.tape = w.tape ∧ w'.output = w.output ∧
      ObjRel cr φ w' (.row true T (cs.take off ++ xs ++ cs.drop (off + xs.length))) (.cells c base lim) := by
  obtain ⟨cs', T', fr, h1, h2, h3, h4⟩ := hr
  obtain ⟨rfl, h5, h6, h7⟩ := h4 rfl
  have hlen := hv.length
  have hb := hl _ h5
  refine ⟨_, run_storeCells_at p c (base + off) T' vs 0 cs' w h1 (by omega) hv.one, by simp, fun k hk => setRow_other w c k _ hk, rfl, rfl, rfl, ?_⟩
  · refine ⟨_, T', (0, 0), setRow_heap w c cs' _ T' _ h1, ?_, ?_, fun _ => ⟨rfl, ?_, h6, fun e => ⟨(h7 e).1, by have e1 := (h7 e).2; have e2 := hfit e; simp; omega⟩⟩⟩
    · simp; omega
    · intro j x hj
      simp only [Nat.add_zero, List.getElem?_toArray]
      rcases Nat.lt_or_ge j off with k1 | k1
      · rw [List.append_assoc, List.getElem?_append_left (by simp; omega), List.getElem?_take] at hj
        simp only [k1, if_true] at hj
        obtain ⟨v, k2, k3⟩ := h3 j x hj
        refine ⟨v, ?_, k3⟩
        rw [List.append_assoc, List.getElem?_append_left (by simp; omega), List.getElem?_take]
        simpa [show base + j < base + off by omega] using k2
      · rw [List.append_assoc, List.getElem?_append_right (by simp; omega)] at hj
        simp only [List.length_take, Nat.min_eq_left ho] at hj
        rw [List.append_assoc, List.getElem?_append_right (by simp; omega)]
        simp only [List.length_take, Array.length_toList, Nat.min_eq_left (show base + off ≤ cs'.size by omega)]
        rcases Nat.lt_or_ge (j - off) xs.length with k2 | k2
        · rw [List.getElem?_append_left k2] at hj
          obtain ⟨v, k3, k4⟩ := hv.at _ _ hj
          refine ⟨v, ?_, k4⟩
          rw [List.getElem?_append_left (by omega), show base + j - (base + off) = j - off by omega]
          exact k3
        · rw [List.getElem?_append_right k2, List.getElem?_drop] at hj
          obtain ⟨v, k3, k4⟩ := h3 _ x hj
          refine ⟨v, ?_, k4⟩
          rw [List.getElem?_append_right (by omega), List.getElem?_drop]
          rw [← Array.getElem?_toList] at k3
          rw [← k3]
          congr 1
          omega
    · rw [h5]; simp; omega

theorem op_st {t : TypeId} {y z : Operand} {n : Nat} {x1 x2 : Opd} (ho : o.op = .store t y z) (hy : okO y x1 = true) (hz : okO z x2 = true) (hn : sizeIs p t n = true) (hs : RelS φ s a.tmps) (sim : Sim cr B0 φ h w)
    (hx : aSt s h n x1 x2 = some (v, h')) : Exec p a.eval o w (Res cr B0 φ h w v h') := by
  obtain ⟨v1, h1, h2⟩ := bnd_eq.1 hx
  obtain ⟨b, off, rfl, h2⟩ := onPtr_eq.1 h2
  obtain ⟨v2, h3, h2⟩ := bnd_eq.1 h2
  obtain ⟨vs, h4, h2⟩ := onCells_eq.1 h2
  obtain ⟨h5, h2⟩ := guardB_eq.1 h2
  obtain ⟨T, cs, h6, h2⟩ := atOwn_eq.1 h2
  obtain ⟨cs', h7, h2⟩ := bnd_eq.1 h2
  rw [H.put_eq] at h2
  cases h2
  obtain ⟨h8, rfl⟩ := splice_eq.1 h7
  obtain ⟨c, base, lim, k1, k3⟩ := okO_rel hs hy h1
  obtain ⟨c', base', lim', k4, k5⟩ := sim.row h6
  rw [k1] at k4; cases k4
  have hv := (okO_rel hs hz h3).cells h4
  have hlen : vs.length = n := by simpa using h5
  obtain ⟨w', m1, m2, m3, m4, m5, m6, m7⟩ := row_write (p := p) (off := off) k5 hv (by omega) (by
    intro L hL
    obtain ⟨cs', T', fr, q1, q2, q3, q4⟩ := k5
    obtain ⟨rfl, q5, _⟩ := q4 rfl
    rw [hL] at q5; cases q5; omega) (fun _ => by omega)
  obtain ⟨s1, e1⟩ := sim.write h6 rfl k1 rfl m2 m3 m4 m5 m6 (.inr ⟨rfl, m7⟩)
  have hsz : (a.eval z).cells.size = n := by rw [← Array.length_toList, ← hv.length]; exact hlen
  refine ⟨undef, w', .inr ⟨?_, rfl⟩, φ, s1, e1, ⟨#[], rfl, trivial⟩⟩
  simp [execOp, ho, Instr.storeAt, k3, Instr.sureAddr, storeVar, run_size hn, hsz, m1]

/-- the type of a slice's elements -/
def elemIs (p : Program) (t : TypeId) (T : Nat) : Bool := match p.underlying t with | some (.slice e) => Nat.beq (2 * e) T | _ => false
theorem elemIs_eq {t e : TypeId} {T : Nat} (hk : elemIs p t T = true) (he : p.underlying t = some (.slice e)) : T = 2 * e := by
  unfold elemIs at hk; rw [he] at hk; exact (Nat.eq_of_beq_eq_true hk).symm
/-- a new row of the call's own -/
theorem Sim.newRow (sim : Sim cr B0 φ h w) (T T' : Nat) (hT : T' = T / 2) {cs : List W} {arr : Array Value} (hr : RelL (RelW φ) cs arr.toList) :
    let i : Inf := .cells w.heap.size 0 (some arr.size)
    Sim cr B0 (φ.upd h.sz i) ⟨h.sz.next, Tr.put (some (.row true T cs)) h.sz h.tr, h.log, h.sz :: h.nw⟩ (w.alloc (.cells arr T')) ∧
    Ext φ h w (φ.upd h.sz i) ⟨h.sz.next, Tr.put (some (.row true T cs)) h.sz h.tr, h.log, h.sz :: h.nw⟩ (w.alloc (.cells arr T')) := by
  intro i
  refine sim.alloc _ _ i rfl ⟨arr, T', (0, 0), heap_alloc_new w _, ?_, ?_, fun _ => ⟨rfl, rfl, hT, fun _ => ⟨rfl, by rw [← Array.length_toList, ← hr.length]⟩⟩⟩
  · have := hr.length; simp at this; omega
  · intro j x hx
    obtain ⟨v, k1, k2⟩ := hr.at j x hx
    exact ⟨v, by simpa using k1, k2.mono (sim.le_upd i)⟩
theorem op_box {t : TypeId} {y : Operand} {T : Nat} {x : Opd} (ho : o.op = .box t y) (hT : T = 2 * t + 1) (hy : okO y x = true) (hs : RelS φ s a.tmps) (sim : Sim cr B0 φ h w)
    (hx : aBox s h T x = some (v, h')) : Exec p a.eval o w (Res cr B0 φ h w v h') := by
  obtain ⟨v1, h1, h2⟩ := bnd_eq.1 hx
  obtain ⟨cs, h3, h2⟩ := onCells_eq.1 h2
  rw [H.new_eq] at h2
  cases h2
  obtain ⟨s1, e1⟩ := sim.newRow T t (by omega) ((okO_rel hs hy h1).cells h3)
  refine Exec.val (v' := .pointer (some ⟨w.heap.size, 0, none⟩)) (w' := w.alloc (.cells (a.eval y).cells t)) ?_ ⟨_, s1, e1, ⟨_, _, _, Phi.upd_same _ _ _, rfl⟩⟩
  simp [execOp, ho, Instr.box, newVar, newRow]
/-- the zero value of a type -/
def zeroIs (p : Program) (t : TypeId) (v : V) : Bool := match p.info? t with | some i => (match i.zero with | some z => okV z v | none => false) | none => false
theorem zeroIs_eq {t : TypeId} {z : V} (hz : zeroIs p t z = true) : ∃ z' , (∀ w, (zeroValue t).run p w = .ok z' w) ∧ ∀ φ, RelV φ z z' := by
  unfold zeroIs at hz
  split at hz
  · rename_i i hi
    split at hz
    · rename_i z' hz'; exact ⟨z', fun w => by simp [zeroValue, typeInfo, hi, hz'], fun φ => okV_rel hz φ⟩
    · cases hz
  · cases hz
theorem op_alloc {t : TypeId} {T : Nat} {z : V} (ho : o.op = .alloc t) (hT : T = 2 * t + 1) (hz : zeroIs p t z = true) (sim : Sim cr B0 φ h w)
    (hx : aBox s h T (.c z) = some (v, h')) : Exec p a.eval o w (Res cr B0 φ h w v h') := by
  obtain ⟨v1, h1, h2⟩ := bnd_eq.1 hx
  cases h1
  obtain ⟨cs, h3, h2⟩ := onCells_eq.1 h2
  rw [H.new_eq] at h2
  cases h2
  obtain ⟨z', k1, k2⟩ := zeroIs_eq hz
  obtain ⟨s1, e1⟩ := sim.newRow T t (by omega) ((k2 φ).cells h3)
  refine Exec.val (v' := .pointer (some ⟨w.heap.size, 0, none⟩)) (w' := w.alloc (.cells z'.cells t)) ?_ ⟨_, s1, e1, ⟨_, _, _, Phi.upd_same _ _ _, rfl⟩⟩
  simp [execOp, ho, Instr.alloc, newVar, newRow, k1]
end
end Go.Am
namespace Go.Am
set_option autoImplicit false
set_option linter.unusedSimpArgs false
set_option linter.unusedVariables false
section
variable {cr : CR} {B0 : Nat} {φ : Phi} {h h' : H} {w : World} {p : Program} {o : Oper} {s : S} {a : Act} {v : V}

def fieldOf (p : Program) (t : TypeId) (f : Nat) : Option Field := match p.underlying t with | some (.struct fs) => fs[f]? | _ => none
theorem fieldOf_eq {t : TypeId} {f : Nat} {fd : Field} (hf : fieldOf p t f = some fd) : ∃ fs, p.underlying t = some (.struct fs) ∧ fs[f]? = some fd := by
  unfold fieldOf at hf
  split at hf
  · rename_i fs hfs; exact ⟨fs, hfs, hf⟩
  · cases hf
def okFad (p : Program) (t : TypeId) (f off : Nat) : Bool :=
  match fieldOf p t f with
  | some fd => Nat.beq fd.offset off && (match p.info? fd.type with | some i => !(Nat.beq i.size 0) | none => false)
  | none => false
theorem op_fad {t : TypeId} {y : Operand} {f off : Nat} {x : Opd} (ho : o.op = .fieldAddr t y f) (hy : okO y x = true) (hf : okFad p t f off = true) (hs : RelS φ s a.tmps) (sim : Sim cr B0 φ h w)
    (hx : aFad s h off x = some (v, h')) : Exec p a.eval o w (Res cr B0 φ h w v h') := by
  obtain ⟨v1, h1, h2⟩ := bnd_eq.1 hx
  obtain ⟨b, off', rfl, h5⟩ := onPtr_eq.1 h2
  rw [natK_eq] at h5
  cases h5
  obtain ⟨c, base, lim, k1, k3⟩ := okO_rel hs hy h1
  unfold okFad at hf
  split at hf
  · rename_i fd hfd
    obtain ⟨fs, hfs, hget⟩ := fieldOf_eq hfd
    simp at hf
    obtain ⟨hoff, hi⟩ := hf
    split at hi
    · rename_i i hi'
      have hi : ¬ i.size = 0 := fun e => by rw [e] at hi; simp at hi
      refine Exec.val (v' := .pointer (some ⟨c, base + off' + off, none⟩)) (w' := w) ?_ (Res.same sim ⟨c, base, lim, k1, by simp [Nat.add_assoc]⟩)
      simp [execOp, ho, Instr.fieldAt, Sem.run_bind, run_underlying hfs, hget, k3, Instr.sureAddr, fieldPlace, sizeOf, typeInfo, hi', hi, addr_add, hoff]
    · cases hi
  · cases hf

def sliceOf (p : Program) (t : TypeId) : Option TypeId := match p.underlying t with | some (.slice e) => some e | _ => none
theorem sliceOf_eq {t e : TypeId} (hf : sliceOf p t = some e) : p.underlying t = some (.slice e) := by
  unfold sliceOf at hf
  split at hf
  · rename_i e' he; cases hf; exact he
  · cases hf
def okIad (p : Program) (t : TypeId) (z : Nat) : Bool := match sliceOf p t with | some e => sizeIs p e z | none => false
theorem okIad_eq {t z : Nat} (hz : okIad p t z = true) : ∃ e, p.underlying t = some (.slice e) ∧ sizeIs p e z = true := by
  unfold okIad at hz
  split at hz
  · rename_i e he; exact ⟨e, sliceOf_eq he, hz⟩
  · cases hz
theorem op_iad {t : TypeId} {y i : Operand} {z : Nat} {x1 x2 : Opd} (ho : o.op = .indexAddr t y i) (hy : okO y x1 = true) (hi : okO i x2 = true) (hz : okIad p t z = true) (hs : RelS φ s a.tmps) (sim : Sim cr B0 φ h w)
    (hx : aIad s h z x1 x2 = some (v, h')) : Exec p a.eval o w (Res cr B0 φ h w v h') := by
  obtain ⟨v1, h1, h2⟩ := bnd_eq.1 hx
  obtain ⟨b, off, z', len, cap, ex, rfl, h2⟩ := onSl_eq.1 h2
  obtain ⟨v2, h3, h2⟩ := bnd_eq.1 h2
  obtain ⟨k, n, rfl, h2⟩ := onNat_eq.1 h2
  obtain ⟨h4, h2⟩ := guardB_eq.1 h2
  obtain ⟨h5, h2⟩ := guardB_eq.1 h2
  rw [natK_eq] at h2
  cases h2
  obtain ⟨c, base, lim, off1, cap', k1, k3, k5, k6, k7, _⟩ := okO_rel hs hy h1
  have k4 : a.eval i = .int k (Int.ofNat n) := okO_rel hs hi h3
  obtain ⟨e, he, hsz⟩ := okIad_eq hz
  have hlt : n < len := by simpa [Nat.blt_eq] using h4
  have hoff := k5 (by omega)
  subst hoff
  refine Exec.val (v' := .pointer (some ⟨c, base + off + n * z, none⟩)) (w' := w) ?_ (Res.same sim ⟨c, base, lim, k1, by simp [Nat.add_assoc]⟩)
  simp [execOp, ho, Instr.indexAt, Sem.run_bind, run_underlying he, k3, k4, asIntOf, run_size hsz, addr_add, hlt]
def okIada (p : Program) (t len z : Nat) : Bool := match p.underlying t with | some (.array n e) => Nat.beq n len && sizeIs p e z | _ => false
theorem okIada_eq {t len z : Nat} (hz : okIada p t len z = true) : ∃ e, p.underlying t = some (.array len e) ∧ sizeIs p e z = true := by
  unfold okIada at hz
  split at hz
  · rename_i n e he; simp at hz; obtain ⟨rfl, h⟩ := hz; exact ⟨e, he, h⟩
  · cases hz
theorem op_iada {t : TypeId} {y i : Operand} {len z : Nat} {x1 x2 : Opd} (ho : o.op = .indexAddr t y i) (hy : okO y x1 = true) (hi : okO i x2 = true) (hz : okIada p t len z = true) (hs : RelS φ s a.tmps) (sim : Sim cr B0 φ h w)
    (hx : aIada s h len z x1 x2 = some (v, h')) : Exec p a.eval o w (Res cr B0 φ h w v h') := by
  obtain ⟨v1, h1, h2⟩ := bnd_eq.1 hx
  obtain ⟨b, off, rfl, h2⟩ := onPtr_eq.1 h2
  obtain ⟨v2, h3, h2⟩ := bnd_eq.1 h2
  obtain ⟨k, n, rfl, h2⟩ := onNat_eq.1 h2
  obtain ⟨h4, h2⟩ := guardB_eq.1 h2
  rw [natK_eq] at h2
  cases h2
  obtain ⟨c, base, lim, k1, k3⟩ := okO_rel hs hy h1
  have k4 : a.eval i = .int k (Int.ofNat n) := okO_rel hs hi h3
  obtain ⟨e, he, hsz⟩ := okIada_eq hz
  have hlt : n < len := by simpa [Nat.blt_eq] using h4
  refine Exec.val (v' := .pointer (some ⟨c, base + off + n * z, none⟩)) (w' := w) ?_ (Res.same sim ⟨c, base, lim, k1, by simp [Nat.add_assoc]⟩)
  simp [execOp, ho, Instr.indexAt, Sem.run_bind, run_underlying he, k3, k4, asIntOf, run_size hsz, addr_add, hlt, Instr.sureAddr]
theorem op_nck {y : Operand} {x : Opd} (ho : o.op = .nilCheck y) (hy : okO y x = true) (hs : RelS φ s a.tmps) (sim : Sim cr B0 φ h w)
    (hx : aNck s h x = some (v, h')) : Exec p a.eval o w (Res cr B0 φ h w v h') := by
  obtain ⟨v1, h1, h2⟩ := bnd_eq.1 hx
  obtain ⟨b, off, rfl, h2⟩ := onPtr_eq.1 h2
  cases h2
  have hr := okO_rel hs hy h1
  obtain ⟨c, base, lim, k1, k3⟩ := hr
  exact Exec.val (v' := a.eval y) (w' := w) (by simp [execOp, ho, k3]) (Res.same sim ⟨c, base, lim, k1, k3⟩)
theorem op_ext {y : Operand} {x : Opd} {i : Nat} (ho : o.op = .extract y i) (hy : okO y x = true) (hs : RelS φ s a.tmps) (sim : Sim cr B0 φ h w)
    (hx : aExt s h x i = some (v, h')) : Exec p a.eval o w (Res cr B0 φ h w v h') := by
  obtain ⟨v1, h1, h2⟩ := bnd_eq.1 hx
  obtain ⟨us, rfl, h2⟩ := onTup_eq.1 h2
  obtain ⟨u, h3, h2⟩ := bnd_eq.1 h2
  rw [nthX_eq] at h3
  obtain ⟨arr, k1, k2⟩ := okO_rel hs hy h1
  obtain ⟨v', k3, k4⟩ := k2.at i u h3
  have hv : v = u.v ∧ h' = h := by cases u <;> cases h2 <;> exact ⟨rfl, rfl⟩
  obtain ⟨rfl, rfl⟩ := hv
  refine Exec.val (v' := v') (w' := w) ?_ (Res.same sim (RelU.v.2 k4))
  rw [Array.getElem?_toList] at k3
  simp [execOp, ho, k1, Instr.extract, k3]
def lenTy (p : Program) (t : TypeId) : Bool := match p.underlying t with | some (.slice _) => true | _ => false
theorem op_len {t : TypeId} {y : Operand} {x : Opd} (ho : o.op = .call { callee := .builtin .len, args := #[y], argTypes := #[t] }) (hy : okO y x = true) (ht : lenTy p t = true) (hs : RelS φ s a.tmps) (sim : Sim cr B0 φ h w)
    (hx : aLen s h x = some (v, h')) : Exec p a.eval o w (Res cr B0 φ h w v h') := by
  obtain ⟨v1, h1, h2⟩ := bnd_eq.1 hx
  obtain ⟨x', rfl, h2⟩ := onW_eq.1 h2
  have hr := okO_rel hs hy h1
  unfold lenTy at ht
  split at ht
  · rename_i e he
    cases x' <;> try (cases h2; done)
    · cases h2
      have hr' : a.eval y = .slice none 0 0 := hr
      exact Exec.val (v' := .int .i64 0) (w' := w) (by simp [execOp, ho, resolve, invoke, builtin, Builtin.len_, run_underlying he, hr', goInt]) (Res.same sim rfl)
    · cases h2
      obtain ⟨c, base, lim, off1, cap', k1, k3, _⟩ := hr
      exact Exec.val (v' := .int .i64 _) (w' := w) (by simp [execOp, ho, resolve, invoke, builtin, Builtin.len_, run_underlying he, k3, goInt]) (Res.same sim rfl)
  · cases ht
end
end Go.Am
