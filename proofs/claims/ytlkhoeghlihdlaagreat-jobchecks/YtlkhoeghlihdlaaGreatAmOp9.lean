import Derived.Test.YtlkhoeghlihdlaaGreatAmOp5
import Derived.MapKept
import Derived.WideKeyRuns
namespace Go.Am
set_option autoImplicit false
set_option linter.unusedSimpArgs false
set_option linter.unusedVariables false
section
variable {cr : CR} {B0 : Nat} {φ : Phi} {h h' : H} {w : World} {p : Program} {o : Oper} {s : S} {a : Act} {v : V}

/-- the cells of a slice or a string that is appended or copied -/
theorem cellsOf_run {β : Type} {z : Nat} {f : List W → Nat → Option β} {r : β} (sim : Sim cr B0 φ h w) {x : W} {v' : Value} (hr : RelW φ x v') (hx : cellsOf h z f x = some r) :
    ∃ xs n news, f xs n = some r ∧ RelL (RelW φ) xs news ∧ news.length = n * z ∧ (∀ w1, (Builtin.lenOf v').run p w1 = .ok n w1) ∧
      ∀ m, m ≤ n → ∀ w1 : World, w1.heap = w.heap → (Builtin.firstCells z m v').run p w1 = .ok (news.take (m * z)).toArray w1 := by
  cases x with
  | nils =>
    cases hr
    refine ⟨[], 0, [], hx, trivial, by simp, fun w1 => rfl, fun m hm w1 _ => ?_⟩
    simp [Builtin.firstCells]
  | sl b o' z' len cap ex =>
    obtain ⟨g1, g2⟩ := guardB_eq.1 hx
    obtain ⟨own, T, cs, g3, g4⟩ := atRow_eq.1 g2
    obtain ⟨xs, g5, g6⟩ := bnd_eq.1 g4
    rw [dropX_eq] at g5
    obtain ⟨g7, rfl⟩ := takeX_eq.1 g5
    have hz : z = z' := by simpa using g1
    subst hz
    obtain ⟨c, base, lim, off, cap', q1, rfl, q3, q4, q5, q6, q7⟩ := hr
    obtain ⟨c', base', lim', k4, k5⟩ := sim.row g3
    rw [q1] at k4; cases k4
    rcases Nat.eq_zero_or_pos (len * z) with e | e
    · refine ⟨_, len, [], g6, ?_, by simpa using e.symm, fun w1 => rfl, fun m hm w1 _ => ?_⟩
      · simp only [Nat.mul_eq, e, List.take_zero]; trivial
      · have : m * z = 0 := Nat.le_zero.1 (e ▸ Nat.mul_le_mul_right z hm)
        simp [Builtin.firstCells, this, loadCells, loadCellsFrom]
    · have hlen : 0 < len := Nat.pos_of_mul_pos_right e
      simp only [List.length_drop, Nat.mul_eq] at g7
      obtain ⟨l, l1, l2, l3⟩ := row_part k5 (off := o') (n := len * z) (by omega)
      rw [← q3 (by omega)] at l3
      refine ⟨_, len, l, g6, l2, l1, fun w1 => rfl, fun m hm w1 hw => ?_⟩
      have hmz : m * z ≤ len * z := Nat.mul_le_mul_right z hm
      have := run_cells (p := p) (w := w1) (c := c) (o := off) (l := l.take (m * z)) (fun j u hu => by
        rw [List.getElem?_take] at hu
        split at hu
        · have := l3 j u hu
          simpa [World.cell?, hw] using this
        · cases hu)
      rw [List.length_take, l1, Nat.min_eq_left hmz] at this
      simp [Builtin.firstCells, this]
  | str t =>
    obtain ⟨g1, g2⟩ := guardB_eq.1 hx
    have hz : z = 1 := by simpa using g1
    subst hz
    cases hr
    rw [lenX_eq] at g2
    refine ⟨_, t.length, t.map (fun c => Value.int .u8 (c.toNat : Int)), g2, ?_, by simp, fun w1 => rfl, fun m hm w1 hw => ?_⟩
    · refine RelL.of_at (by simp [byteW]) ?_
      intro j x y h1 h2
      simp only [byteW, List.getElem?_map] at h1 h2
      cases ht : t[j]? with
      | none => simp [ht] at h1
      | some c => simp [ht] at h1 h2; subst h1; subst h2; rfl
    · simp only [Builtin.firstCells, Sem.run_pure, Nat.mul_one]
      congr 1
      apply Array.ext'
      simp [List.extract, List.map_take]
  | _ => cases hx

def okApp (p : Program) (t u : TypeId) (z bytes : Nat) : Bool :=
  (match sliceOf p t with
  | some e => (match p.info? e with | some i => Nat.beq i.size z && Nat.beq i.bytes bytes && (match i.zero with | some v => Nat.beq v.cells.size z | none => false) | none => false)
  | none => false) && (match p.underlying u with | some (.slice _) => true | some .string => true | _ => false)
theorem okApp_eq {t u : TypeId} {z bytes : Nat} (h : okApp p t u z bytes = true) : ∃ e i v, p.underlying t = some (.slice e) ∧ p.info? e = some i ∧ i.size = z ∧ i.bytes = bytes ∧ i.zero = some v ∧ v.cells.size = z ∧
    ((∃ e', p.underlying u = some (.slice e')) ∨ p.underlying u = some .string) := by
  simp only [okApp, Bool.and_eq_true] at h
  obtain ⟨h1, h2⟩ := h
  split at h1
  · rename_i e he
    split at h1
    · rename_i i hi
      simp only [Bool.and_eq_true] at h1
      obtain ⟨⟨k1, k2⟩, k3⟩ := h1
      split at k3
      · rename_i v hv
        refine ⟨e, i, v, sliceOf_eq he, hi, by simpa using k1, by simpa using k2, hv, by simpa using k3, ?_⟩
        split at h2
        · rename_i hu; exact .inl ⟨_, hu⟩
        · rename_i hu; exact .inr hu
        · cases h2
      · cases k3
    · cases h1
  · cases h1

section run
variable {t u ty e : TypeId} {i : TypeInfo} {z : Value} {size n sLen sCap : Nat} {x : Value} {news : List Value} {ad : Addr}
/-- append, where there is room -/
theorem run_app_fits (ht : p.underlying t = some (.slice e)) (hi : p.info? e = some i) (hu : (∃ e', p.underlying u = some (.slice e')) ∨ p.underlying u = some .string)
    (hlen : ∀ w1, (Builtin.lenOf x).run p w1 = .ok n w1) (hx : ∀ w1 : World, w1.heap = w.heap → (Builtin.firstCells i.size n x).run p w1 = .ok news.toArray w1) (hroom : sLen + n ≤ sCap)
    {w' : World} (hst : (storeCells (ad.add (sLen * i.size)) news).run p w = .ok () w') :
    (Builtin.append_ #[t, u] ty #[.slice (some ad) sLen sCap, x]).run p w = .ok (.slice (some ad) (sLen + n) sCap) w' := by
  rcases hu with ⟨e', hu⟩ | hu <;> simp [Builtin.append_, run_underlying ht, run_underlying hu, sizeOf, typeInfo, hi, hlen, hroom, hx w rfl, hst]
theorem run_app_nil (ht : p.underlying t = some (.slice e)) (hi : p.info? e = some i) (hu : (∃ e', p.underlying u = some (.slice e')) ∨ p.underlying u = some .string)
    (hlen : ∀ w1, (Builtin.lenOf x).run p w1 = .ok 0 w1) (hx : ∀ w1 : World, w1.heap = w.heap → (Builtin.firstCells i.size 0 x).run p w1 = .ok news.toArray w1) :
    (Builtin.append_ #[t, u] ty #[.slice none 0 0, x]).run p w = .ok (.slice none 0 0) w := by
  rcases hu with ⟨e', hu⟩ | hu <;> simp [Builtin.append_, run_underlying ht, run_underlying hu, sizeOf, typeInfo, hi, hlen, hx w rfl]
/-- append, where there is none -/
theorem run_app_grow (ht : p.underlying t = some (.slice e)) (hi : p.info? e = some i) (hz : i.zero = some z) (hu : (∃ e', p.underlying u = some (.slice e')) ∨ p.underlying u = some .string)
    {base : Option Addr} {olds : List Value} (hb : 0 < i.bytes)
    (hlen : ∀ w1, (Builtin.lenOf x).run p w1 = .ok n w1) (hx : ∀ w1 : World, w1.heap = w.heap → (Builtin.firstCells i.size n x).run p w1 = .ok news.toArray w1)
    (ho : ∀ w1 : World, w1.heap = w.heap → (Builtin.firstCells i.size sLen (.slice base sLen sCap)).run p w1 = .ok olds.toArray w1)
    (hroom : sCap < sLen + n) (hfit : (sLen + n) * i.bytes ≤ 140737488355328) :
    (Builtin.append_ #[t, u] ty #[.slice base sLen sCap, x]).run p w =
      .ok (.slice (some ⟨w.heap.size, 0, none⟩) (sLen + n) (grownCap w (sLen + n) sCap e))
        (w.drew.alloc (.cells (olds.toArray ++ news.toArray ++ Builtin.zeroCells z.cells (grownCap w (sLen + n) sCap e - (sLen + n))) e)) := by
  have hn : ¬ (sLen + n ≤ sCap) := by omega
  have hne : i.bytes ≠ 0 := by omega
  have h48 := growslice_fits (need := sLen + n) (old := sCap) (bytes := i.bytes) (by omega) hfit
  have h48' : ¬ (281474976710656 < Builtin.nextslicecap (sLen + n) sCap * i.bytes) := by omega
  have hxx := hx w.drew rfl
  have hoo := ho w.drew rfl
  rcases hu with ⟨e', hu⟩ | hu
  all_goals
    simp [Builtin.append_, run_underlying ht, run_underlying hu, sizeOf, typeInfo, zeroValue, hi, hz, hlen, hn, hne, h48', Question.forced, hxx, hoo, newRow, grownCap]
    try (congr 2; apply Array.ext'; simp [List.append_assoc])
end run

/-- a block goes over to a new name -/
theorem Sim.move (sim : Sim cr B0 φ h w) {b : P} {ob : O} {i : Inf} {c : Nat} {w' : World} (hb : h.tr.get b = some ob) (hm : ob.mut = true) (hi : φ b = some i) (hc : i.blk = some c)
    (hz : w'.heap.size = w.heap.size) (hk : ∀ k, k ≠ c → w'.heap[k]? = w.heap[k]?) (h1 : w'.os = w.os) (h2 : w'.tape = w.tape) (h3 : w'.output = w.output)
    {o2 : O} {i2 : Inf} (hc2 : i2.blk = some c) (ho : ObjRel cr (φ.upd h.sz i2) w' o2 i2) :
    Sim cr B0 (φ.upd h.sz i2) ⟨h.sz.next, Tr.put (some o2) h.sz (Tr.put (some .dead) b h.tr), b :: h.log, h.sz :: h.nw⟩ w' ∧
    Ext φ h w (φ.upd h.sz i2) ⟨h.sz.next, Tr.put (some o2) h.sz (Tr.put (some .dead) b h.tr), b :: h.log, h.sz :: h.nw⟩ w' := by
  obtain ⟨s1, e1⟩ := sim.write hb hm hi hc hz hk h1 h2 h3 (o' := .dead) (.inl rfl)
  have hlt := sim.lt_of_get hb (O.mut_ne hm)
  refine ⟨s1.adopt o2 i2 (fun k hk2 => ?_) ho, ?_⟩
  · rw [hc2] at hk2; cases hk2
    refine ⟨s1.dom b i c hi hc, sim.low b ob i c hb hm hi hc, fun b' o' j g1 g2 g3 g4 => ?_⟩
    change Tr.get b' (Tr.put _ _ _) = _ at g1
    by_cases e : b' = b
    · subst e; rw [Tr.get_put_same] at g1; cases g1; exact g2 rfl
    · rw [Tr.get_put_ne _ e] at g1
      exact e (sim.sep b b' ob o' i j c hb g1 hm g2 hi g3 hc g4).symm
  · refine ⟨fun q hq => Phi.upd_ne _ _ (fun e => by subst e; omega), by simp, Nat.le_of_eq hz.symm, h1, h2, h3, [b], [h.sz], rfl, rfl, ?_, ?_, ?_, ?_, ?_, ?_⟩
    · intro k _ hl; exact hk k fun e => by subst e; exact hl b (by simp) i hi hc
    · intro q hq hn
      show Tr.get q (Tr.put _ _ (Tr.put _ _ _)) = _
      rw [Tr.get_put_ne _ (fun e => by subst e; omega), Tr.get_put_ne _ (by simpa using hn)]
    · intro q k1 k2
      have k2' : q.nat < h.sz.nat + 1 := by simpa using k2
      simp [P.nat_inj (show q.nat = h.sz.nat by omega)]
    · simp
    · intro q j d hq hj hd
      by_cases e : q = h.sz
      · subst e; rw [Phi.upd_same] at hj; cases hj; rw [hc2] at hd; cases hd; exact .inr ⟨b, by simp, i, hi, hc⟩
      · rw [Phi.upd_ne _ _ e, (sim.fresh q hq).1] at hj; cases hj
    · intro q hq
      have e := List.mem_singleton.1 hq
      subst e
      exact ⟨by simp; omega, fun _ => ⟨ob, hb, hm⟩⟩

theorem app_new (sim : Sim cr B0 φ h w) {cs : List W} {vs : List Value} {m cap z T : Nat} {e : TypeId} {zc : Array Value} {arr : Array Value} (hr : RelL (RelW φ) cs vs) (hl : vs.length = m * z) (hz : zc.size = z) (hcap : m ≤ cap)
    (harr : arr.toList = vs ++ (Builtin.zeroCells zc (cap - m)).toList) (hT : T = 2 * e) (hx : appNew h T z m cs = some (v, h')) :
    Res cr B0 φ h w v h' (.slice (some ⟨w.heap.size, 0, none⟩) m cap) (w.drew.alloc (.cells arr e)) := by
  rw [appNew, natK_eq, H.new_eq] at hx
  cases hx
  have s0 := sim.world (w' := w.drew) (Nat.le_refl _) (fun _ _ => rfl)
  have x0 := Ext.world sim (w' := w.drew) (Nat.le_refl _) (fun _ _ => rfl) rfl rfl rfl
  have hcl := hr.length
  have hsz : arr.size = cap * z := by
    rw [← Array.length_toList, harr, List.length_append, hl, Array.length_toList, size_zeroCells, hz, ← Nat.add_mul]
    congr 1; omega
  obtain ⟨s1, x1⟩ := s0.alloc (.row true T cs) (.cells arr e) (.cells w.heap.size 0 (some arr.size)) rfl ⟨arr, e, (0, 0), heap_alloc_new w.drew _, by rw [hsz]; rw [hcl, hl, Nat.zero_add]; exact Nat.mul_le_mul_right z hcap, fun j x hj => by
    obtain ⟨u, k1, k2⟩ := hr.at j x hj
    refine ⟨u, ?_, k2.mono (s0.le_upd _)⟩
    rw [Nat.zero_add, ← Array.getElem?_toList, harr, List.getElem?_append_left (List.getElem?_eq_some_iff.1 k1).1]
    exact k1, fun _ => ⟨rfl, rfl, by rw [hT]; exact (Nat.mul_div_cancel_left e (by decide)).symm, fun e1 => by rw [hT, Nat.mul_mod_right] at e1; cases e1⟩⟩
  exact ⟨_, s1, x0.trans x1, ⟨_, _, _, _, cap, Phi.upd_same _ _ _, rfl, fun _ => rfl, Nat.le_refl _, hcap, (by simp), fun L hL => by cases hL; rw [hsz]; simp⟩⟩

theorem op_app {t u : TypeId} {y1 y2 : Operand} {T z bytes : Nat} {x1 x2 : Opd} (ho : o.op = .call { callee := .builtin .append, args := #[y1, y2], argTypes := #[t, u] })
    (hT : elemIs p t T = true) (h1 : okO y1 x1 = true) (h2 : okO y2 x2 = true) (hk : okApp p t u z bytes = true) (hb0 : 0 < bytes) (hs : RelS φ s a.tmps) (sim : Sim cr B0 φ h w)
    (hx : aApp s h T z bytes x1 x2 = some (v, h')) : Exec p a.eval o w (Res cr B0 φ h w v h') := by
  obtain ⟨v1, g1, g2⟩ := bnd_eq.1 hx
  obtain ⟨sv, rfl, g3⟩ := onW_eq.1 g2
  obtain ⟨v2, g4, g5⟩ := bnd_eq.1 g3
  obtain ⟨xv, rfl, g6⟩ := onW_eq.1 g5
  have r1 : RelW φ sv (a.eval y1) := okO_rel hs h1 g1
  have r2 : RelW φ xv (a.eval y2) := okO_rel hs h2 g4
  obtain ⟨e, i, zv, q1, q2, q3, q4, q5, q6, q7⟩ := okApp_eq hk
  have eT := elemIs_eq hT q1
  obtain ⟨xs, n, news, g7, rx, ln, hlen, hfc⟩ := cellsOf_run (p := p) sim r2 g6
  rw [natK_eq] at g7
  have hnews := hfc n (Nat.le_refl n)
  rw [List.take_of_length_le (by omega)] at hnews
  subst q3
  have fin : ∀ (v' : Value) (w' : World), (Builtin.append_ #[t, u] o.type #[a.eval y1, a.eval y2]).run p w = .ok v' w' → Res cr B0 φ h w v h' v' w' → Exec p a.eval o w (Res cr B0 φ h w v h') := by
    intro v' w' hrun hres
    exact Exec.val (v' := v') (w' := w') (by simp [execOp, ho, resolve, invoke, builtin, hrun]) hres
  cases sv with
  | nils =>
    have e1 : a.eval y1 = .slice none 0 0 := r1
    rw [e1] at fin
    cases n with
    | zero =>
      cases g7
      exact fin _ _ (run_app_nil q1 q2 q7 hlen hnews) (Res.same sim rfl)
    | succ n =>
      obtain ⟨g8, g9⟩ := guardB_eq.1 g7
      have g8 : (n + 1) * bytes ≤ 140737488355328 := by simpa [mulLe, roomB] using g8
      refine fin _ _ (run_app_grow (olds := []) q1 q2 q5 q7 (by omega) hlen hnews (fun w1 _ => by simp [Builtin.firstCells]) (by omega) (by rw [q4]; simpa using g8)) ?_
      simp only [Nat.zero_add]
      exact app_new sim rx ln q6 (grownCap_ge _ _ _ _) (by simp) eT g9
  | sl b off z' len cap ex =>
    obtain ⟨c, base, lim, off', cap', k1, k2, k3, k4, k5, k6, k7⟩ := r1
    rw [k2] at fin
    cases n with
    | zero =>
      cases g7
      have hn : news = [] := List.eq_nil_of_length_eq_zero (by simpa using ln)
      subst hn
      exact fin _ _ (run_app_fits (w' := w) q1 q2 q7 hlen hnews (by omega) (by simp [storeCells])) (Res.same sim ⟨c, base, lim, off', cap', k1, rfl, k3, k4, k5, k6, k7⟩)
    | succ n =>
      obtain ⟨g8, g9⟩ := guardB_eq.1 g7
      have hz : i.size = z' := by simpa using g8
      subst hz
      by_cases hroom : len + (n + 1) ≤ cap
      · have hble : Nat.ble (Nat.add len (n + 1)) cap = true := by rw [Nat.ble_eq]; exact hroom
        rw [hble] at g9
        have g9 : appIn h b off i.size len cap ex xs (n + 1) = some (v, h') := g9
        obtain ⟨T', cs, m1, m2⟩ := atOwn_eq.1 g9
        obtain ⟨cs', m3, m4⟩ := bnd_eq.1 m2
        rw [natK_eq, H.put_eq] at m4
        cases m4
        obtain ⟨m5, rfl⟩ := splice_eq.1 m3
        obtain ⟨c', base', lim', m6, m7⟩ := sim.row m1
        rw [k1] at m6; cases m6
        have hoff := k3 (by omega)
        obtain ⟨w', n1, n2, n3, n4, n5, n6, n7⟩ := row_write (p := p) (off := off + len * i.size) m7 rx (by simp only [Nat.add_eq, Nat.mul_eq] at m5; omega) (by
          intro L hL
          have b1 := k7 L hL
          have b2 : (len + (n + 1)) * i.size ≤ cap' * i.size := Nat.mul_le_mul_right _ (by omega)
          rw [Nat.add_mul] at b2
          have b3 := rx.length
          omega) (fun _ => by simp only [Nat.add_eq, Nat.mul_eq] at m5; omega)
        obtain ⟨s1, x1⟩ := sim.write m1 rfl k1 rfl n2 n3 n4 n5 n6 (.inr ⟨rfl, n7⟩)
        refine fin _ _ (run_app_fits (w' := w') q1 q2 q7 hlen hnews (by omega) (by rw [addr_add, hoff, Nat.add_assoc]; exact n1)) ⟨φ, s1, x1, ⟨c, base, lim, off', cap', k1, rfl, k3, hroom, k5, k6, k7⟩⟩
      · have hble : Nat.ble (Nat.add len (n + 1)) cap = false := by
          cases hq : Nat.ble (Nat.add len (n + 1)) cap with
          | false => rfl
          | true => rw [Nat.ble_eq] at hq; exact absurd hq hroom
        rw [hble] at g9
        obtain ⟨g10, g11⟩ := guardB_eq.1 g9
        have g10 : (len + (n + 1)) * bytes ≤ 140737488355328 := by simpa [mulLe, roomB] using g10
        obtain ⟨own, T', cs, m1, m2⟩ := atRow_eq.1 g11
        obtain ⟨old, m3, m4⟩ := bnd_eq.1 m2
        obtain ⟨new, m5, m6⟩ := bnd_eq.1 m4
        rw [appX_eq] at m5
        cases m5
        rw [dropX_eq] at m3
        obtain ⟨m7, rfl⟩ := takeX_eq.1 m3
        obtain ⟨c', base', lim', m8, m9⟩ := sim.row m1
        rw [k1] at m8; cases m8
        -- the old cells
        obtain ⟨olds, o1, o2, o3⟩ : ∃ olds : List Value, olds.length = len * i.size ∧ RelL (RelW φ) ((cs.drop off).take (len * i.size)) olds ∧
            ∀ w1 : World, w1.heap = w.heap → (Builtin.firstCells i.size len (.slice (some ⟨c, off', none⟩) len cap')).run p w1 = .ok olds.toArray w1 := by
          rcases Nat.eq_zero_or_pos (len * i.size) with e0 | e0
          · exact ⟨[], by simpa using e0.symm, by rw [e0, List.take_zero]; trivial, fun w1 _ => by simp [Builtin.firstCells, e0, loadCells, loadCellsFrom]⟩
          · have hl0 : 0 < len := Nat.pos_of_mul_pos_right e0
            simp only [List.length_drop, Nat.mul_eq] at m7
            obtain ⟨l, l1, l2, l3⟩ := row_part m9 (off := off) (n := len * i.size) (by omega)
            rw [← k3 (by omega)] at l3
            refine ⟨l, l1, l2, fun w1 hw => ?_⟩
            have := run_cells (p := p) (w := w1) (c := c) (o := off') (l := l) (fun j u hu => by
              have := l3 j u hu
              simpa [World.cell?, hw] using this)
            rw [l1] at this
            simp [Builtin.firstCells, this]
        have rall : RelL (RelW φ) ((cs.drop off).take (len * i.size) ++ xs) (olds ++ news) := o2.append rx
        have lall : (olds ++ news).length = (len + (n + 1)) * i.size := by rw [List.length_append, o1, ln, ← Nat.add_mul]
        have grow : ∀ (φ0 : Phi) (h0 : H), Sim cr B0 φ0 h0 w → Ext φ h w φ0 h0 w → Le φ φ0 → cap' < len + (n + 1) → appNew h0 T i.size (len + (n + 1)) ((cs.drop off).take (len * i.size) ++ xs) = some (v, h') →
            Exec p a.eval o w (Res cr B0 φ h w v h') := by
          intro φ0 h0 s0 x0 hle hc hn
          refine fin _ _ (run_app_grow (olds := olds) q1 q2 q5 q7 (by omega) hlen hnews o3 hc (by rw [q4]; exact g10)) ?_
          obtain ⟨φ2, s2, x2, r2⟩ := app_new (arr := olds.toArray ++ news.toArray ++ Builtin.zeroCells zv.cells (grownCap w (len + (n + 1)) cap' e - (len + (n + 1)))) (e := e) (cap := grownCap w (len + (n + 1)) cap' e) s0 (rall.mono fun _ _ => RelW.mono hle) lall q6 (grownCap_ge _ _ _ _) (by simp [List.append_assoc]) eT hn
          exact ⟨φ2, s2, x0.trans x2, r2⟩
        cases ex with
        | true => exact grow φ h sim (Ext.refl sim) (Le.refl φ) (by rw [k6 rfl]; omega) m6
        | false =>
          obtain ⟨m10, m11⟩ := guardB_eq.1 m6
          obtain ⟨m12, m13⟩ := guardB_eq.1 m11
          have m12 : T = T' := by simpa using m12
          subst m12
          obtain ⟨m14, m15⟩ := guardB_eq.1 m13
          rw [H.put_eq] at m15
          subst m10
          have hend : off + len * i.size = cs.length := by simpa using m14
          by_cases hfit : len + (n + 1) ≤ cap'
          · have hoff := k3 (by omega)
            obtain ⟨w', n1, n2, n3, n4, n5, n6, n7⟩ := row_write (p := p) (off := off + len * i.size) m9 rx (by omega) (by
              intro L hL
              have b1 := k7 L hL
              have b2 : (len + (n + 1)) * i.size ≤ cap' * i.size := Nat.mul_le_mul_right _ hfit
              rw [Nat.add_mul] at b2
              have b3 := rx.length
              omega) (fun e1 => by rw [eT, Nat.mul_mod_right] at e1; cases e1)
            rw [appNew, natK_eq, H.new_eq] at m15
            cases m15
            have hobj : ObjRel cr (φ.upd h.sz (.cells c (base + off) lim)) w' (.row true T ((cs.drop off).take (len * i.size) ++ xs)) (.cells c (base + off) lim) := by
              obtain ⟨cs', T'', fr, p1, p2, p3, p4⟩ := n7
              have hA : (cs.drop off).take (len * i.size) = cs.drop off := List.take_of_length_le (by simp; omega)
              have hB : cs.take (off + len * i.size) ++ xs ++ cs.drop (off + len * i.size + xs.length) = cs ++ xs := by
                rw [hend, List.take_length, List.drop_eq_nil_of_le (by omega), List.append_nil]
              rw [hB] at p2 p3
              rw [hA]
              refine ⟨cs', T'', fr, p1, ?_, fun j x hj => ?_, fun hh => ⟨(p4 hh).1, (p4 hh).2.1, (p4 hh).2.2.1, fun e1 => by rw [eT, Nat.mul_mod_right] at e1; cases e1⟩⟩
              · simp only [List.length_append, List.length_drop] at p2 ⊢; omega
              · rw [← List.drop_append_of_le_length (by omega), List.getElem?_drop] at hj
                obtain ⟨u, u1, u2⟩ := p3 _ x hj
                exact ⟨u, by rw [Nat.add_assoc]; exact u1, u2.mono (sim.le_upd _)⟩
            obtain ⟨s1, x1⟩ := sim.move m1 rfl k1 rfl n2 n3 n4 n5 n6 (i2 := .cells c (base + off) lim) rfl hobj
            refine fin _ _ (run_app_fits (w' := w') q1 q2 q7 hlen hnews hfit (by rw [addr_add, hoff, Nat.add_assoc]; exact n1)) ⟨_, s1, x1, ⟨c, base + off, lim, off', cap', Phi.upd_same _ _ _, rfl, fun _ => hoff, Nat.le_refl _, hfit, (by simp), fun L hL => ?_⟩⟩
            have := k7 L hL
            omega
          · obtain ⟨s1, x1⟩ := sim.write (w' := w) m1 rfl k1 rfl rfl (fun _ _ => rfl) rfl rfl rfl (o' := .dead) (.inl rfl)
            exact grow φ _ s1 x1 (Le.refl φ) (by omega) m15
  | _ => cases g7
end
end Go.Am
namespace Go.Am
set_option autoImplicit false
set_option linter.unusedSimpArgs false
set_option linter.unusedVariables false
section
variable {cr : CR} {B0 : Nat} {φ : Phi} {h h' : H} {w : World} {p : Program} {o : Oper} {s : S} {a : Act} {v : V}

/-- what kind of key a map has -/
def okQ (p : Program) (kt : TypeId) (q : Q) : Bool := match q with | .s k => decide (kindOf p kt = some k) | .f ks => okFlat p kt ks

theorem kindOf_plain {t : TypeId} {k : Nat} (ht : kindOf p t = some k) (v : Value) (em : Bool) (n : Nat) : (Instr.checkKey em (n + 1) t v).run p w = .ok () w := by
  unfold kindOf at ht
  unfold Instr.checkKey
  split at ht
  · rename_i j hu; simp only [Sem.run_bind, run_underlying hu, Result.andThen]; simp
  · rename_i hu; simp only [Sem.run_bind, run_underlying hu, Result.andThen]; simp
  · rename_i hu; simp only [Sem.run_bind, run_underlying hu, Result.andThen]; simp
  · cases ht
theorem checkFields (em : Bool) (n : Nat) (arr : Array Value) : ∀ {fs : List Field} {ks : List Nat} {j : Nat}, flatFields p fs ks j = true → arr.size = j + ks.length →
    (forIn fs PUnit.unit (fun (f : Field) (_ : PUnit) => (do
      if f.name ≠ "_" then Instr.checkKey em (n + 1) f.type (← part f.type arr f.offset)
      pure (ForInStep.yield PUnit.unit) : Sem (ForInStep PUnit)))).run p w = .ok PUnit.unit w
  | [], [], j, _, _ => by simp
  | f :: fs, k :: ks, j, hf, hs => by
    simp only [flatFields, Bool.and_eq_true, decide_eq_true_eq] at hf
    obtain ⟨⟨⟨h1, h2⟩, h3⟩, h4⟩ := hf
    have h3 : f.offset = j := by simpa using h3
    simp only [List.length_cons] at hs
    obtain ⟨u, hu⟩ : ∃ u, arr[j]? = some u := ⟨_, Array.getElem?_eq_getElem (by omega)⟩
    have ih := checkFields em n arr h4 (by omega)
    simp only [List.forIn_cons, Sem.run_bind, h1, ne_eq, not_false_eq_true, if_true, h3, part_one h2 hu, Result.andThen_ok, kindOf_plain h2, Sem.run_pure]
    simpa using ih
  | [], _ :: _, _, hf, _ => by simp [flatFields] at hf
  | _ :: _, [], _, hf, _ => by simp [flatFields] at hf
theorem checkKey_run {kt : TypeId} {q : Q} {k : U} {kv : Value} (hq : okQ p kt q = true) (hk : keyOk q k = true) (hr : RelU φ k kv) (em : Bool) : (Instr.checkKey em 10000 kt kv).run p w = .ok () w := by
  cases q with
  | s k' => exact kindOf_plain (of_decide_eq_true hq) kv em 9999
  | f ks =>
    cases k with
    | w x => cases hk
    | a cs =>
      obtain ⟨arr, rfl, hr⟩ := hr
      have hl : cs.length = ks.length := by
        have : Nat.beq (lenX cs) (lenX ks) = true := hk
        simpa using this
      have hlen : cs.length = arr.size := by rw [← Array.length_toList]; exact hr.length
      change okFlat p kt ks = true at hq
      unfold okFlat at hq
      split at hq
      · rename_i fs hfs
        simp only [Bool.and_eq_true] at hq
        have := checkFields (w := w) em 9998 arr hq.1 (by omega)
        unfold Instr.checkKey
        simp only [Sem.run_bind, run_underlying hfs, Result.andThen_ok]
        rw [← Array.forIn_toList]
        simp at this
        simp [this]
      · cases hq


/-- the entry that is found -/
def Found (q : Q) (k : U) (es : List E) (es' : List MapEntry) (i : Nat) (r : Option (Nat × U)) (r' : Option (Nat × Value)) : Prop :=
  (r = none ∧ r' = none) ∨ ∃ j e e', r = some (i + j, e.val) ∧ r' = some (i + j, e'.val) ∧ es[j]? = some e ∧ es'[j]? = some e' ∧ keyEq q k e.key = some true
theorem findK_cons {q : Q} {k : U} {e : E} {es : List E} {i : Nat} {r : Option (Nat × U)} (h : findK q k (e :: es) i = some r) :
    (keyEq q k e.key = some true ∧ r = some (i, e.val)) ∨ (keyEq q k e.key = some false ∧ findK q k es (i + 1) = some r) := by
  obtain ⟨b, h1, h2⟩ := bnd_eq.1 (show bnd (keyEq q k e.key) (fun r => Bool.rec (motive := fun _ => Option (Option (Nat × U))) (natK (Nat.succ i) (findK q k es))
      (E.rec (motive := fun _ => Option (Option (Nat × U))) (fun _ v _ => some (some (i, v))) e) r) = some r from h)
  cases b with
  | true => cases h2; exact .inl ⟨h1, rfl⟩
  | false => rw [natK_eq] at h2; exact .inr ⟨h1, h2⟩
theorem Found.next {q : Q} {k : U} {e : E} {es : List E} {e' : MapEntry} {es' : List MapEntry} {i : Nat} {r : Option (Nat × U)} {r' : Option (Nat × Value)} (h : Found q k es es' (i + 1) r r') : Found q k (e :: es) (e' :: es') i r r' := by
  rcases h with h | ⟨j, x, x', h1, h2, h3, h4, h5⟩
  · exact .inl h
  · exact .inr ⟨j + 1, x, x', by rw [h1]; congr 2; omega, by rw [h2]; congr 2; omega, by simpa using h3, by simpa using h4, h5⟩
theorem uW_eq {β : Type} {f : W → Option β} {u : U} {b : β} : uW f u = some b ↔ ∃ x, u = .w x ∧ f x = some b := by cases u <;> simp [uW]
theorem uA_eq {β : Type} {f : List W → Option β} {u : U} {b : β} : uA f u = some b ↔ ∃ x, u = .a x ∧ f x = some b := by cases u <;> simp [uA]
theorem sameNow_run {kt : TypeId} {kd : TypeDesc} {n : Nat} {x y : W} {v v' : Value} {r : Bool} (ht : kindOf p kt = some n) (hd : p.underlying kt = some kd) (hx : RelW φ x v) (hy : RelW φ y v') (he : eqK n x y = some r) :
    Instr.sameNow kd v v' = some r ∧ (r = true → v = v') := by
  unfold kindOf at ht
  rw [hd] at ht
  split at ht
  · rename_i j hu
    cases ht; cases hu
    change eqI x y = some r at he
    cases x <;> simp only [eqI, reduceCtorEq] at he
    cases y <;> simp only [wInt, reduceCtorEq] at he
    obtain ⟨h1, h2⟩ := guardB_eq.1 he
    have h1 := of_decide_eq_true h1
    subst h1
    cases h2
    simp only [RelW] at hx hy
    subst hx hy
    refine ⟨by simp [Instr.sameNow, BEq.beq], fun h => by rw [of_decide_eq_true h]⟩
  · rename_i hu
    cases ht; cases hu
    change eqBo x y = some r at he
    cases x <;> simp only [eqBo, reduceCtorEq] at he
    cases y <;> simp only [reduceCtorEq] at he
    cases he
    simp only [RelW] at hx hy
    subst hx hy
    exact ⟨rfl, fun h => by rw [eq_of_beq h]⟩
  · rename_i hu
    cases ht; cases hu
    change eqSt x y = some r at he
    cases x <;> simp only [eqSt, reduceCtorEq] at he
    cases y <;> simp only [reduceCtorEq] at he
    cases he
    simp only [RelW] at hx hy
    subst hx hy
    rename_i b c
    have : ((⟨b.toArray⟩ : ByteArray) == ⟨c.toArray⟩) = decide (b = c) := by
      rw [beq_toListBytes, ByteArray.toList_eq, ByteArray.toList_eq]
      simp [Bool.beq_eq_decide_eq]
    exact ⟨by simp [Instr.sameNow, this], fun h => by rw [of_decide_eq_true h]⟩
  · cases ht
theorem findNow_run {kt : TypeId} {kd : TypeDesc} {n : Nat} (ht : kindOf p kt = some n) (hd : p.underlying kt = some kd) {k : U} {kv : Value} (hk : RelU φ k kv) :
    ∀ {es : List E} {es' : List MapEntry} {i : Nat} {r : Option (Nat × U)}, RelL (RelE φ) es es' → findK (.s n) k es i = some r → ∃ r', Instr.findNow kd kv es' i = some r' ∧ Found (.s n) k es es' i r r'
  | [], [], i, r, _, h => by cases h; exact ⟨none, rfl, .inl ⟨rfl, rfl⟩⟩
  | e :: es, e' :: es', i, r, ⟨h1, h2⟩, h => by
    rcases findK_cons h with ⟨g1, g2⟩ | ⟨g1, g2⟩
    · obtain ⟨x, rfl, g3⟩ := uW_eq.1 (show uW (fun x => uW (eqK n x) e.key) k = some true from g1)
      obtain ⟨y, ey, g4⟩ := uW_eq.1 g3
      have hy : RelW φ y e'.key := by have := h1.1; rw [ey] at this; exact this
      obtain ⟨q1, _⟩ := sameNow_run ht hd hk hy g4
      exact ⟨some (i, e'.val), by simp [Instr.findNow, q1], .inr ⟨0, e, e', by simpa using g2, by simp, by simp, by simp, g1⟩⟩
    · obtain ⟨x, rfl, g3⟩ := uW_eq.1 (show uW (fun x => uW (eqK n x) e.key) k = some false from g1)
      obtain ⟨y, ey, g4⟩ := uW_eq.1 g3
      have hy : RelW φ y e'.key := by have := h1.1; rw [ey] at this; exact this
      obtain ⟨q1, _⟩ := sameNow_run ht hd hk hy g4
      obtain ⟨r', q2, q3⟩ := findNow_run ht hd hk h2 g2
      exact ⟨r', by simp [Instr.findNow, q1, q2], q3.next⟩
theorem findAsk_run {kt : TypeId} {ks : List Nat} (ht : okFlat p kt ks = true) {k : U} {kv : Value} (hk : RelU φ k kv) :
    ∀ {es : List E} {es' : List MapEntry} {i : Nat} {r : Option (Nat × U)}, RelL (RelE φ) es es' → findK (.f ks) k es i = some r → ∃ r', (Instr.findAsking kt kv es' i).run p w = .ok r' w ∧ Found (.f ks) k es es' i r r'
  | [], [], i, r, _, h => by cases h; exact ⟨none, rfl, .inl ⟨rfl, rfl⟩⟩
  | e :: es, e' :: es', i, r, ⟨h1, h2⟩, h => by
    have key : ∀ b, keyEq (.f ks) k e.key = some b → (Op.equal kt kv e'.key).run p w = .ok b w := by
      intro b g1
      obtain ⟨x, rfl, g3⟩ := uA_eq.1 (show uA (fun x => uA (eqN ks x) e.key) k = some b from g1)
      obtain ⟨y, ey, g4⟩ := uA_eq.1 g3
      have hy : RelU φ (.a y) e'.key := by have := h1.1; rw [ey] at this; exact this
      obtain ⟨arr, rfl, ha⟩ := hk
      obtain ⟨brr, hb, hb'⟩ := hy
      rw [hb]
      exact okFlat_run (p := p) (w := w) ht ha hb' g4 9998
    rcases findK_cons h with ⟨g1, g2⟩ | ⟨g1, g2⟩
    · exact ⟨some (i, e'.val), by simp [Instr.findAsking, key _ g1], .inr ⟨0, e, e', by simpa using g2, by simp, by simp, by simp, g1⟩⟩
    · obtain ⟨r', q2, q3⟩ := findAsk_run ht hk h2 g2
      exact ⟨r', by simp [Instr.findAsking, key _ g1, q2], q3.next⟩
theorem findK_run {kt : TypeId} {q : Q} (hq : okQ p kt q = true) {k : U} {kv : Value} (hk : RelU φ k kv) {es : List E} {es' : List MapEntry} {r : Option (Nat × U)} (he : RelL (RelE φ) es es') (hf : findK q k es 0 = some r) :
    ∃ r', (Instr.findKey kt kv es').run p w = .ok r' w ∧ Found q k es es' 0 r r' := by
  cases q with
  | s n =>
    have ht : kindOf p kt = some n := of_decide_eq_true hq
    obtain ⟨kd, hd⟩ : ∃ kd, p.underlying kt = some kd := by
      cases hu : p.underlying kt with
      | none => simp [kindOf, hu] at ht
      | some kd => exact ⟨kd, rfl⟩
    obtain ⟨r', h1, h2⟩ := findNow_run ht hd hk he hf
    exact ⟨r', by simp [Instr.findKey, run_underlying hd, h1], h2⟩
  | f ks =>
    have ht : okFlat p kt ks = true := hq
    obtain ⟨r', h1, h2⟩ := findAsk_run (w := w) ht hk he hf
    refine ⟨r', ?_, h2⟩
    have e := run_findKey_eq (P := p) w (k := kt) (by
      unfold okFlat at ht
      split at ht
      · rename_i fs hfs; simp [hfs]
      · cases ht) kv es'
    rw [e]
    exact h1
/-- a key that is equal has the same bits -/
theorem eqK_bits {n : Nat} {x y : W} {v v' : Value} (hx : RelW φ x v) (hy : RelW φ y v') (he : eqK n x y = some true) : v = v' ∧ ∀ d, Instr.sameBits d v v = true := by
  have hsame : v = v' ∧ (x = y) ∧ ((∃ k m, x = .int k m) ∨ (∃ b, x = .bool b) ∨ ∃ t, x = .str t) := by
    match n, he with
    | 0, he =>
      change eqI x y = some true at he
      cases x <;> simp only [eqI, reduceCtorEq] at he
      cases y <;> simp only [wInt, reduceCtorEq] at he
      obtain ⟨h1, h2⟩ := guardB_eq.1 he
      have h1 := of_decide_eq_true h1
      subst h1
      simp only [Option.some.injEq, decide_eq_true_eq] at h2
      subst h2
      simp only [RelW] at hx hy
      exact ⟨hx.trans hy.symm, rfl, .inl ⟨_, _, rfl⟩⟩
    | 1, he =>
      change eqBo x y = some true at he
      cases x <;> simp only [eqBo, reduceCtorEq] at he
      cases y <;> simp only [reduceCtorEq] at he
      simp only [Option.some.injEq, beq_iff_eq] at he
      subst he
      simp only [RelW] at hx hy
      exact ⟨hx.trans hy.symm, rfl, .inr (.inl ⟨_, rfl⟩)⟩
    | n + 2, he =>
      change eqSt x y = some true at he
      cases x <;> simp only [eqSt, reduceCtorEq] at he
      cases y <;> simp only [reduceCtorEq] at he
      simp only [Option.some.injEq, decide_eq_true_eq] at he
      subst he
      simp only [RelW] at hx hy
      exact ⟨hx.trans hy.symm, rfl, .inr (.inr ⟨_, rfl⟩)⟩
  obtain ⟨rfl, rfl, h⟩ := hsame
  refine ⟨rfl, fun d => ?_⟩
  rcases h with ⟨k, m, rfl⟩ | ⟨b, rfl⟩ | ⟨t, rfl⟩ <;> (simp only [RelW] at hx; subst hx)
  · simp [Instr.sameBits, BEq.beq]
  · simp [Instr.sameBits]
  · simp only [Instr.sameBits]; rw [beq_toListBytes]; simp
end
end Go.Am
namespace Go.Am
set_option autoImplicit false
set_option linter.unusedSimpArgs false
set_option linter.unusedVariables false
section
variable {cr : CR} {B0 : Nat} {φ : Phi} {h h' : H} {w : World} {p : Program} {o : Oper} {s : S} {a : Act} {v : V}

theorem eqN_bits (d : Nat) : ∀ {ks : List Nat} {xs ys : List W} {l m : List Value}, RelL (RelW φ) xs l → RelL (RelW φ) ys m → eqN ks xs ys = some true →
    l = m ∧ (l.zip l).all (fun (x, y) => Instr.sameBits d x y) = true
  | [], xs, ys, l, m, hx, hy, he => by
    cases xs with
    | nil => cases ys with
      | nil => match l, m, hx, hy with
        | [], [], _, _ => simp
      | cons _ _ => cases he
    | cons _ _ => cases he
  | k :: ks, xs, ys, l, m, hx, hy, he => by
    cases xs with
    | nil => cases he
    | cons x xs =>
      cases ys with
      | nil => cases he
      | cons y ys =>
        obtain ⟨b, k1, k2⟩ := bnd_eq.1 (show bnd (eqK k x y) (fun r => Bool.rec (motive := fun _ => Option Bool) (some false) (eqN ks xs ys) r) = some true from he)
        cases b with
        | false => cases k2
        | true =>
          match l, m, hx, hy with
          | u :: l, u' :: m, ⟨x1, x2⟩, ⟨y1, y2⟩ =>
            obtain ⟨i1, i2⟩ := eqN_bits d x2 y2 k2
            obtain ⟨j1, j2⟩ := eqK_bits x1 y1 k1
            exact ⟨by rw [i1, j1], by simp only [List.zip_cons_cons, List.all_cons, j2 d, Bool.true_and]; exact i2⟩
theorem keyEq_bits {q : Q} {x y : U} {v v' : Value} (hx : RelU φ x v) (hy : RelU φ y v') (he : keyEq q x y = some true) : v = v' ∧ Instr.sameBits 10000 v v = true := by
  cases q with
  | s n =>
    obtain ⟨x, rfl, g3⟩ := uW_eq.1 (show uW (fun x => uW (eqK n x) y) x = some true from he)
    obtain ⟨y, rfl, g4⟩ := uW_eq.1 g3
    have := eqK_bits hx hy g4
    exact ⟨this.1, this.2 _⟩
  | f ks =>
    obtain ⟨x, rfl, g3⟩ := uA_eq.1 (show uA (fun x => uA (eqN ks x) y) x = some true from he)
    obtain ⟨y, rfl, g4⟩ := uA_eq.1 g3
    obtain ⟨arr, rfl, ha⟩ := hx
    obtain ⟨brr, rfl, hb⟩ := hy
    obtain ⟨k1, k2⟩ := eqN_bits 9999 ha hb g4
    have k1 : arr = brr := Array.toList_inj.1 k1
    subst k1
    refine ⟨rfl, ?_⟩
    simp only [Instr.sameBits, Bool.and_eq_true, beq_self_eq_true, true_and]
    exact k2
theorem run_stays {q : Q} {x y : U} {v v' : Value} (hx : RelU φ x v) (hy : RelU φ y v') (he : keyEq q x y = some true) : (Instr.keyThatStays v' v).run p w = .ok v w := by
  obtain ⟨rfl, h⟩ := keyEq_bits hx hy he
  simp [Instr.keyThatStays, h]

/-! maps -/
def mapOf (p : Program) (t : TypeId) : Option (TypeId × TypeId) := match p.underlying t with | some (.map k e) => some (k, e) | _ => none
theorem mapOf_eq {t k e : TypeId} (hf : mapOf p t = some (k, e)) : p.underlying t = some (.map k e) := by
  unfold mapOf at hf
  split at hf
  · rename_i k' e' he; cases hf; exact he
  · cases hf
def okMap (p : Program) (t : TypeId) (q : Q) (z : Option U) : Bool :=
  match mapOf p t with
  | some (k, e) => okQ p k q && (match z with | some u => (match p.info? e with | some i => (match i.zero with | some z => okU z u | none => false) | none => false) | none => true)
  | none => false

theorem okMap_eq {t : TypeId} {q : Q} {z : Option U} (hk : okMap p t q z = true) : ∃ k e, p.underlying t = some (.map k e) ∧ okQ p k q = true ∧ ∀ u, z = some u → ∃ z', (∀ w, (zeroValue e).run p w = .ok z' w) ∧ ∀ φ, RelU φ u z' := by
  unfold okMap at hk
  split at hk
  · rename_i k e hm
    simp only [Bool.and_eq_true] at hk
    refine ⟨k, e, mapOf_eq hm, hk.1, fun u hu => ?_⟩
    subst hu
    have h2 := hk.2
    simp only at h2
    split at h2
    · rename_i i hi
      split at h2
      · rename_i z' hz; exact ⟨z', fun w => by simp [zeroValue, typeInfo, hi, hz], fun φ => okU_rel h2 φ⟩
      · cases h2
    · cases h2
  · cases hk
theorem modE_eq {f : E → E} : ∀ {i : Nat} {es r : List E}, modE f i es = some r → i < es.length ∧ r = es.modify i f
  | 0, [], _, h => by cases h
  | 0, e :: es, r, h => by cases h; exact ⟨by simp, by simp⟩
  | i + 1, [], _, h => by cases h
  | i + 1, e :: es, r, h => by
    obtain ⟨t, h1, h2⟩ := bnd_eq.1 (show bnd (modE f i es) (fun r => some (e :: r)) = some r from h)
    cases h2
    obtain ⟨h3, rfl⟩ := modE_eq h1
    exact ⟨by simp; omega, by simp⟩
theorem RelL.modify {α β : Type} {R : α → β → Prop} {f : α → α} {g : β → β} : ∀ {i : Nat} {l : List α} {m : List β}, RelL R l m → (∀ x y, l[i]? = some x → m[i]? = some y → R x y → R (f x) (g y)) → RelL R (l.modify i f) (m.modify i g)
  | _, [], [], _, _ => by simp [RelL]
  | 0, x :: l, y :: m, ⟨h1, h2⟩, h => by simpa [RelL] using ⟨h x y (by simp) (by simp) h1, h2⟩
  | i + 1, x :: l, y :: m, ⟨h1, h2⟩, h => by
    simp only [List.modify_succ_cons]
    exact ⟨h1, RelL.modify h2 fun x y h3 h4 => h x y (by simpa using h3) (by simpa using h4)⟩
theorem RelL.erase {α β : Type} {R : α → β → Prop} : ∀ {i : Nat} {l : List α} {m : List β}, RelL R l m → RelL R (l.eraseIdx i) (m.eraseIdx i)
  | _, [], [], _ => by simp [RelL]
  | 0, x :: l, y :: m, ⟨h1, h2⟩ => by simpa using h2
  | i + 1, x :: l, y :: m, ⟨h1, h2⟩ => by simp only [List.eraseIdx_cons_succ]; exact ⟨h1, RelL.erase h2⟩
/-- a map is written -/
theorem Sim.setMap (sim : Sim cr B0 φ h w) {b : P} {es es2 : List E} {clock clock2 c : Nat} {es' es2' : Array MapEntry} (hb : h.tr.get b = some (.map es clock)) (hi : φ b = some (.obj c)) (hw : w.heap[c]? = some (.map es' clock))
    (hr : RelL (RelE φ) es2 es2'.toList) :
    (∀ p, (setObj c (.map es2' clock2)).run p w = .ok () { w with heap := w.heap.setIfInBounds c (.map es2' clock2) }) ∧
    Sim cr B0 φ ⟨h.sz, Tr.put (some (.map es2 clock2)) b h.tr, b :: h.log, h.nw⟩ { w with heap := w.heap.setIfInBounds c (.map es2' clock2) } ∧
    Ext φ h w φ ⟨h.sz, Tr.put (some (.map es2 clock2)) b h.tr, b :: h.log, h.nw⟩ { w with heap := w.heap.setIfInBounds c (.map es2' clock2) } := by
  obtain ⟨k1, k2⟩ := MapKept.heap_set (o' := .map es2' clock2) hw
  exact ⟨fun p => MapKept.run_setObj_map _ hw, sim.write hb rfl hi rfl (by simp) k2 rfl rfl rfl (.inr ⟨rfl, ⟨es2', k1, hr⟩⟩)⟩
theorem RelE.at {es : List E} {es' : Array MapEntry} (h : RelL (RelE φ) es es'.toList) {j : Nat} {e : E} {e' : MapEntry} (h1 : es[j]? = some e) (h2 : es'.toList[j]? = some e') : RelE φ e e' := by
  obtain ⟨b, k1, k2⟩ := h.at j e h1
  rw [h2] at k1; cases k1; exact k2

theorem op_lkp {t : TypeId} {y i : Operand} {ok : Bool} {q : Q} {zero : U} {x1 x2 : Opd} (ho : o.op = .lookup t y i ok) (h1 : okO y x1 = true) (h2 : okO i x2 = true) (hk : okMap p t q (some zero) = true) (hs : RelS φ s a.tmps) (sim : Sim cr B0 φ h w)
    (hx : aLkp s h q zero ok x1 x2 = some (v, h')) : Exec p a.eval o w (Res cr B0 φ h w v h') := by
  obtain ⟨v1, g1, g2⟩ := bnd_eq.1 hx
  obtain ⟨m, rfl, g3⟩ := onW_eq.1 g2
  obtain ⟨v2, g4, g5⟩ := bnd_eq.1 g3
  obtain ⟨k, rfl, g6⟩ := onU_eq.1 g5
  obtain ⟨g7, g8⟩ := guardB_eq.1 g6
  obtain ⟨kt, et, q1, q2, q3⟩ := okMap_eq hk
  obtain ⟨z', q4, q5⟩ := q3 _ rfl
  have r1 : RelW φ m (a.eval y) := okO_rel hs h1 g1
  have r2 : RelU φ k (a.eval i) := RelU.v.1 (okO_rel hs h2 g4)
  have fin : ∀ (b : Bool) (u : U) (u' : Value), RelU φ u u' → okR h ok b u = some (v, h') → Res cr B0 φ h w v h' (if ok then .tuple #[u', .bool b] else u') w := by
    intro b u u' hu hr
    cases ok with
    | true => cases hr; exact Res.same sim ⟨_, rfl, hu, rfl, trivial⟩
    | false =>
      cases u with
      | w x => cases hr; exact Res.same sim hu
      | a x => cases hr; exact Res.same sim hu
  cases m with
  | nilm =>
    have e1 : a.eval y = .map none := r1
    have hc := checkKey_run (w := w) q2 g7 r2 true
    have hf : (Instr.findKey kt (a.eval i) []).run p w = .ok none w := by
      obtain ⟨r', k1, k2⟩ := findK_run (w := w) (r := none) (es := []) (es' := []) q2 r2 trivial rfl
      rcases k2 with ⟨_, rfl⟩ | ⟨j, e, e', _, _, k3, _⟩
      · exact k1
      · simp at k3
    refine Exec.val (v' := if ok then .tuple #[z', .bool false] else z') (w' := w) ?_ (fin false zero z' (q5 φ) g8)
    simp [execOp, ho, Instr.lookup, run_underlying q1, e1, hc, hf, q4]
  | map r =>
    obtain ⟨es, clock, g9, g10⟩ := atMap_eq.1 g8
    obtain ⟨f, g11, g12⟩ := bnd_eq.1 g10
    obtain ⟨c, es', k1, k2, k3⟩ := sim.mapObj g9
    obtain ⟨c', k4, e1⟩ := r1
    rw [k1] at k4; cases k4
    have hc := checkKey_run (w := w) q2 g7 r2 (es'.isEmpty)
    obtain ⟨r', f1, f2⟩ := findK_run (w := w) q2 r2 k3 g11
    have hg := run_getObj_map (P := p) (w := w) _ _ _ k2
    rcases f2 with ⟨rfl, rfl⟩ | ⟨j, e, e', rfl, rfl, f3, f4, f5⟩
    · refine Exec.val (v' := if ok then .tuple #[z', .bool false] else z') (w' := w) ?_ (fin false zero z' (q5 φ) g12)
      simp [execOp, ho, Instr.lookup, run_underlying q1, e1, hg, hc, f1, q4]
    · refine Exec.val (v' := if ok then .tuple #[e'.val, .bool true] else e'.val) (w' := w) ?_ (fin true e.val e'.val (RelE.at k3 f3 f4).2.1 g12)
      simp [execOp, ho, Instr.lookup, run_underlying q1, e1, hg, hc, f1, q4]
  | _ => cases g8

/-- an entry is laid, or altered -/
theorem addE_run (sim : Sim cr B0 φ h w) {b : P} {es : List E} {clock c : Nat} {es' : Array MapEntry} (hb : h.tr.get b = some (.map es clock)) (hi : φ b = some (.obj c)) (hw : w.heap[c]? = some (.map es' clock))
    (hr : RelL (RelE φ) es es'.toList) {k u : U} {k' u' : Value} (hk : RelU φ k k') (hu : RelU φ u u') {x : V} (hx : addE h b es clock k u x = some (v, h')) :
    ∃ w', (∀ p, (setObj c (.map (es'.push ⟨k', u', clock⟩) (clock + 1))).run p w = .ok () w') ∧ v = x ∧ Sim cr B0 φ h' w' ∧ Ext φ h w φ h' w' := by
  obtain ⟨es2, g1, g2⟩ := bnd_eq.1 hx
  rw [appX_eq] at g1
  cases g1
  rw [natK_eq, H.put_eq] at g2
  cases g2
  obtain ⟨k1, k2, k3⟩ := sim.setMap (clock2 := clock + 1) (es2' := es'.push ⟨k', u', clock⟩) hb hi hw (es2 := es ++ [⟨k, u, clock⟩]) (by
    rw [Array.toList_push]
    exact hr.append ⟨⟨hk, hu, rfl⟩, trivial⟩)
  exact ⟨_, k1, rfl, k2, k3⟩
theorem altE_run (sim : Sim cr B0 φ h w) {b : P} {es : List E} {clock c i : Nat} {es' : Array MapEntry} (hb : h.tr.get b = some (.map es clock)) (hi : φ b = some (.obj c)) (hw : w.heap[c]? = some (.map es' clock))
    (hr : RelL (RelE φ) es es'.toList) {f : E → E} {g : MapEntry → MapEntry} (hf : ∀ e e', RelE φ e e' → RelE φ (f e) (g e')) {x : V} (hx : altE h b i es clock f x = some (v, h')) :
    ∃ w', (∀ p, (setObj c (.map (es'.modify i g) clock)).run p w = .ok () w') ∧ v = x ∧ Sim cr B0 φ h' w' ∧ Ext φ h w φ h' w' := by
  obtain ⟨es2, g1, g2⟩ := bnd_eq.1 hx
  obtain ⟨_, rfl⟩ := modE_eq g1
  rw [H.put_eq] at g2
  cases g2
  obtain ⟨k1, k2, k3⟩ := sim.setMap (clock2 := clock) (es2' := es'.modify i g) hb hi hw (es2 := es.modify i f) (by
    rw [Array.toList_modify]
    exact hr.modify fun x y _ _ => hf x y)
  exact ⟨_, k1, rfl, k2, k3⟩

theorem op_mup {t : TypeId} {y i z : Operand} {q : Q} {x1 x2 x3 : Opd} (ho : o.op = .mapUpdate t y i z ∨ o.op = .insert t y i z) (h1 : okO y x1 = true) (h2 : okO i x2 = true) (h3 : okO z x3 = true) (hk : okMap p t q none = true) (hs : RelS φ s a.tmps) (sim : Sim cr B0 φ h w)
    (hx : aMup s h q x1 x2 x3 = some (v, h')) : Exec p a.eval o w (Res cr B0 φ h w v h') := by
  obtain ⟨v1, g1, g2⟩ := bnd_eq.1 hx
  obtain ⟨m, rfl, g3⟩ := onMap_eq.1 g2
  obtain ⟨v2, g4, g5⟩ := bnd_eq.1 g3
  obtain ⟨k, rfl, g6⟩ := onU_eq.1 g5
  obtain ⟨v3, g7, g8⟩ := bnd_eq.1 g6
  obtain ⟨u, rfl, g9⟩ := onU_eq.1 g8
  obtain ⟨g10, g11⟩ := guardB_eq.1 g9
  obtain ⟨es, clock, g12, g13⟩ := atMap_eq.1 g11
  obtain ⟨f, g14, g15⟩ := bnd_eq.1 g13
  obtain ⟨kt, et, q1, q2, q3⟩ := okMap_eq hk
  obtain ⟨c', k4, e1⟩ := okO_rel hs h1 g1
  have r2 : RelU φ k (a.eval i) := RelU.v.1 (okO_rel hs h2 g4)
  have r3 : RelU φ u (a.eval z) := RelU.v.1 (okO_rel hs h3 g7)
  obtain ⟨c, es', k1, k2, k3⟩ := sim.mapObj g12
  rw [k1] at k4; cases k4
  have hc := checkKey_run (w := w) q2 g10 r2 false
  obtain ⟨r', f1, f2⟩ := findK_run (w := w) q2 r2 k3 g14
  have hg := run_getObj_map (P := p) (w := w) _ _ _ k2
  have run : (∃ w', (Instr.mapUpdate t (a.eval y) (a.eval i) (a.eval z)).run p w = .ok () w' ∧ Res cr B0 φ h w v h' undef w') → Exec p a.eval o w (Res cr B0 φ h w v h') := by
    rintro ⟨w', e, r⟩
    refine ⟨undef, w', .inr ⟨?_, rfl⟩, r⟩
    rcases ho with ho | ho <;> simp [execOp, ho, e]
  apply run
  rcases f2 with ⟨rfl, rfl⟩ | ⟨j, e, e', rfl, rfl, f3, f4, f5⟩
  · obtain ⟨w', n1, rfl, n2, n3⟩ := addE_run sim g12 k1 k2 k3 r2 r3 g15
    exact ⟨w', by simp [Instr.mapUpdate, run_underlying q1, e1, hg, hc, f1, n1], φ, n2, n3, ⟨#[], rfl, trivial⟩⟩
  · obtain ⟨w', n1, rfl, n2, n3⟩ := altE_run sim g12 k1 k2 k3 (f := fun e => ⟨k, u, e.born⟩) (g := fun e => { e with key := a.eval i, val := a.eval z }) (fun e e' he => ⟨r2, r3, he.2.2⟩) g15
    have hst := run_stays (p := p) (w := w) r2 (RelE.at k3 f3 f4).1 f5
    rw [Array.getElem?_toList] at f4
    refine ⟨w', ?_, φ, n2, n3, ⟨#[], rfl, trivial⟩⟩
    simp only [Nat.zero_add] at n1 f1
    simp [Instr.mapUpdate, run_underlying q1, e1, hg, hc, f1, f4, hst, n1]

theorem op_men {t : TypeId} {y i : Operand} {q : Q} {zero : U} {x1 x2 : Opd} (ho : o.op = .mapEntry t y i) (h1 : okO y x1 = true) (h2 : okO i x2 = true) (hk : okMap p t q (some zero) = true) (hs : RelS φ s a.tmps) (sim : Sim cr B0 φ h w)
    (hx : aMen s h q zero x1 x2 = some (v, h')) : Exec p a.eval o w (Res cr B0 φ h w v h') := by
  obtain ⟨v1, g1, g2⟩ := bnd_eq.1 hx
  obtain ⟨m, rfl, g3⟩ := onMap_eq.1 g2
  obtain ⟨v2, g4, g5⟩ := bnd_eq.1 g3
  obtain ⟨k, rfl, g6⟩ := onU_eq.1 g5
  obtain ⟨g10, g11⟩ := guardB_eq.1 g6
  obtain ⟨es, clock, g12, g13⟩ := atMap_eq.1 g11
  obtain ⟨f, g14, g15⟩ := bnd_eq.1 g13
  obtain ⟨kt, et, q1, q2, q3⟩ := okMap_eq hk
  obtain ⟨z', q4, q5⟩ := q3 _ rfl
  obtain ⟨c', k4, e1⟩ := okO_rel hs h1 g1
  have r2 : RelU φ k (a.eval i) := RelU.v.1 (okO_rel hs h2 g4)
  obtain ⟨c, es', k1, k2, k3⟩ := sim.mapObj g12
  rw [k1] at k4; cases k4
  have hc := checkKey_run (w := w) q2 g10 r2 false
  obtain ⟨r', f1, f2⟩ := findK_run (w := w) q2 r2 k3 g14
  have hg := run_getObj_map (P := p) (w := w) _ _ _ k2
  rcases f2 with ⟨rfl, rfl⟩ | ⟨j, e, e', rfl, rfl, f3, f4, f5⟩
  · obtain ⟨w', n1, rfl, n2, n3⟩ := addE_run sim g12 k1 k2 k3 r2 (q5 φ) g15
    refine Exec.val (v' := .tuple #[z', goInt clock]) (w' := w') ?_ ⟨φ, n2, n3, ⟨_, rfl, q5 φ, rfl, trivial⟩⟩
    simp [execOp, ho, Instr.mapEntry, run_underlying q1, e1, hg, hc, f1, q4, n1]
  · simp only [Nat.zero_add] at f1 g15
    obtain ⟨ee, m1, m2⟩ := bnd_eq.1 (show bnd (nthX j es) (fun ee => E.rec (motive := fun _ => R) (fun _ _ b =>
        altE h m j es clock (fun e => ⟨k, e.val, e.born⟩) (.t [e.val, .w (.int .i64 (Int.ofNat b))])) ee) = some (v, h') from g15)
    rw [nthX_eq, f3] at m1
    cases m1
    have he := RelE.at k3 f3 f4
    obtain ⟨w', n1, rfl, n2, n3⟩ := altE_run sim g12 k1 k2 k3 (f := fun e => ⟨k, e.val, e.born⟩) (g := fun e => { e with key := a.eval i }) (fun e e' he => ⟨r2, he.2.1, he.2.2⟩) m2
    have hst := run_stays (p := p) (w := w) r2 he.1 f5
    rw [Array.getElem?_toList] at f4
    refine Exec.val (v' := .tuple #[e'.val, goInt e'.born]) (w' := w') ?_ ⟨φ, n2, n3, ⟨_, rfl, he.2.1, ?_, trivial⟩⟩
    · simp [execOp, ho, Instr.mapEntry, run_underlying q1, e1, hg, hc, f1, f4, hst, n1]
    · simp only [RelU, RelW, he.2.2]; rfl

theorem findB_eq {b : Nat} : ∀ {es : List E} {es' : List MapEntry} {i r : Nat}, RelL (RelE φ) es es' → findB b es i = some r → ∃ j, r = i + j ∧ es'.findIdx? (fun e => (e.born : Int) == (b : Int)) = some j
  | [], [], _, _, _, h => by cases h
  | e :: es, e' :: es', i, r, ⟨h1, h2⟩, h => by
    change Bool.rec (motive := fun _ => Option Nat) (natK (Nat.succ i) (findB b es)) (some i) (Nat.beq e.born b) = some r at h
    cases hb : Nat.beq e.born b with
    | true =>
      rw [hb] at h
      cases h
      have : e.born = b := by simpa using hb
      exact ⟨0, rfl, by simp [List.findIdx?_cons, ← h1.2.2, this]⟩
    | false =>
      rw [hb] at h
      simp only [natK_eq] at h
      obtain ⟨j, k1, k2⟩ := findB_eq h2 h
      have : ¬ e.born = b := by intro e1; rw [e1] at hb; simp at hb
      have hne : ((e'.born : Int) == (b : Int)) = false := by rw [← h1.2.2]; simp; omega
      exact ⟨j + 1, by omega, by simp only [List.findIdx?_cons, hne, k2]; simp⟩
theorem op_est {t : TypeId} {y i z : Operand} {x1 x2 x3 : Opd} (ho : o.op = .entryStore t y i z) (h1 : okO y x1 = true) (h2 : okO i x2 = true) (h3 : okO z x3 = true) (hs : RelS φ s a.tmps) (sim : Sim cr B0 φ h w)
    (hx : aEst s h x1 x2 x3 = some (v, h')) : Exec p a.eval o w (Res cr B0 φ h w v h') := by
  obtain ⟨v1, g1, g2⟩ := bnd_eq.1 hx
  obtain ⟨m, rfl, g3⟩ := onMap_eq.1 g2
  obtain ⟨v2, g4, g5⟩ := bnd_eq.1 g3
  obtain ⟨ik, b, rfl, g6⟩ := onNat_eq.1 g5
  obtain ⟨v3, g7, g8⟩ := bnd_eq.1 g6
  obtain ⟨u, rfl, g9⟩ := onU_eq.1 g8
  obtain ⟨es, clock, g12, g13⟩ := atMap_eq.1 g9
  obtain ⟨f, g14, g15⟩ := bnd_eq.1 g13
  obtain ⟨c', k4, e1⟩ := okO_rel hs h1 g1
  have r2 : a.eval i = .int ik (Int.ofNat b) := okO_rel hs h2 g4
  have r3 : RelU φ u (a.eval z) := RelU.v.1 (okO_rel hs h3 g7)
  obtain ⟨c, es', k1, k2, k3⟩ := sim.mapObj g12
  rw [k1] at k4; cases k4
  have hg := run_getObj_map (P := p) (w := w) _ _ _ k2
  obtain ⟨j, rfl, j2⟩ := findB_eq k3 g14
  obtain ⟨w', n1, rfl, n2, n3⟩ := altE_run sim g12 k1 k2 k3 (f := fun e => ⟨e.key, u, e.born⟩) (g := fun e => { e with val := a.eval z }) (fun e e' he => ⟨he.1, r3, he.2.2⟩) g15
  refine ⟨undef, w', .inr ⟨?_, rfl⟩, φ, n2, n3, ⟨#[], rfl, trivial⟩⟩
  have j3 : es'.findIdx? (fun e => (e.born : Int) == (b : Int)) = some j := by rw [← j2]; cases es'; simp
  simp only [Nat.zero_add] at n1
  simp [execOp, ho, Instr.entryStore, e1, r2, hg, asInt, asIntOf, j3, n1]
theorem op_del {t u : TypeId} {y i : Operand} {q : Q} {x1 x2 : Opd} (ho : o.op = .call { callee := .builtin .delete, args := #[y, i], argTypes := #[t, u] }) (h1 : okO y x1 = true) (h2 : okO i x2 = true) (hk : okMap p t q none = true)
    (hs : RelS φ s a.tmps) (sim : Sim cr B0 φ h w) (hx : aDel s h q x1 x2 = some (v, h')) : Exec p a.eval o w (Res cr B0 φ h w v h') := by
  obtain ⟨v1, g1, g2⟩ := bnd_eq.1 hx
  obtain ⟨m, rfl, g3⟩ := onMap_eq.1 g2
  obtain ⟨v2, g4, g5⟩ := bnd_eq.1 g3
  obtain ⟨k, rfl, g6⟩ := onU_eq.1 g5
  obtain ⟨g10, g11⟩ := guardB_eq.1 g6
  obtain ⟨es, clock, g12, g13⟩ := atMap_eq.1 g11
  obtain ⟨f, g14, g15⟩ := bnd_eq.1 g13
  obtain ⟨kt, et, q1, q2, q3⟩ := okMap_eq hk
  obtain ⟨c', k4, e1⟩ := okO_rel hs h1 g1
  have r2 : RelU φ k (a.eval i) := RelU.v.1 (okO_rel hs h2 g4)
  obtain ⟨c, es', k1, k2, k3⟩ := sim.mapObj g12
  rw [k1] at k4; cases k4
  have hc := checkKey_run (w := w) q2 g10 r2 es'.isEmpty
  obtain ⟨r', f1, f2⟩ := findK_run (w := w) q2 r2 k3 g14
  have hg := run_getObj_map (P := p) (w := w) _ _ _ k2
  rcases f2 with ⟨rfl, rfl⟩ | ⟨j, e, e', rfl, rfl, f3, f4, f5⟩
  · rw [H.put_eq] at g15
    cases g15
    obtain ⟨n1, n2, n3⟩ := sim.setMap (clock2 := clock) (es2' := es') g12 k1 k2 k3
    refine Exec.val (v' := .tuple #[]) (w' := { w with heap := w.heap.setIfInBounds c' (.map es' clock) }) ?_ ⟨φ, n2, n3, ⟨#[], rfl, trivial⟩⟩
    simp [execOp, ho, resolve, invoke, builtin, Builtin.delete_, run_underlying q1, e1, hg, hc, f1, n1]
  · simp only [Nat.zero_add] at f1 g15
    obtain ⟨es2, m1, m2⟩ := bnd_eq.1 (show bnd (eraX j es) (fun es => h.put m (.map es clock) (fun h => some (V.t [], h))) = some (v, h') from g15)
    obtain ⟨_, rfl⟩ := eraX_eq.1 m1
    rw [H.put_eq] at m2
    cases m2
    obtain ⟨n1, n2, n3⟩ := sim.setMap (clock2 := clock) (es2' := es'.eraseIdxIfInBounds j) g12 k1 k2 (es2 := es.eraseIdx j) (by
      rw [Array.toList_eraseIdxIfInBounds]; exact k3.erase)
    refine Exec.val (v' := .tuple #[]) (w' := { w with heap := w.heap.setIfInBounds c' (.map (es'.eraseIdxIfInBounds j) clock) }) ?_ ⟨φ, n2, n3, ⟨#[], rfl, trivial⟩⟩
    simp [execOp, ho, resolve, invoke, builtin, Builtin.delete_, run_underlying q1, e1, hg, hc, f1, n1]
end
end Go.Am
