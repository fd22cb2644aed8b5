import Derived.Test.YtlkhoeghlihdlaaGreatAmOp9
import Derived.Lib.Builder
import Derived.Lib.UnsafeStr
import Derived.Laws.BytesString
import Derived.Laws.Externs
import Derived.KernelRfl
namespace Go.Am
set_option autoImplicit false
set_option linter.unusedSimpArgs false
set_option linter.unusedVariables false
section
variable {cr : CR} {B0 : Nat} {φ : Phi} {h h' : H} {w : World} {p : Program} {o : Oper} {s : S} {a : Act} {v : V}

def okMln (p : Program) (t : TypeId) (mp : Bool) : Bool := match p.underlying t, mp with | some .string, false => true | some (.map _ _), true => true | _, _ => false
theorem lenV_eq {n : Nat} (hx : lenV n h = some (v, h')) : v = .w (.int .i64 (Int.ofNat n)) ∧ h' = h := by
  rw [lenV, natK_eq] at hx; cases hx; exact ⟨rfl, rfl⟩
theorem op_mln {t : TypeId} {ts : Array TypeId} {y : Operand} {mp : Bool} {x : Opd} (ho : o.op = .call { callee := .builtin .len, args := #[y], argTypes := #[t] }) (h1 : okO y x = true) (hk : okMln p t mp = true)
    (hs : RelS φ s a.tmps) (sim : Sim cr B0 φ h w) (hx : aMln s h mp x = some (v, h')) : Exec p a.eval o w (Res cr B0 φ h w v h') := by
  obtain ⟨v1, g1, g2⟩ := bnd_eq.1 hx
  obtain ⟨x', rfl, g3⟩ := onW_eq.1 g2
  have r1 : RelW φ x' (a.eval y) := okO_rel hs h1 g1
  have fin : ∀ n : Nat, (Builtin.len_ #[t] o.type #[a.eval y]).run p w = .ok (goInt n) w → lenV n h = some (v, h') → Exec p a.eval o w (Res cr B0 φ h w v h') := by
    intro n hr hl
    obtain ⟨rfl, rfl⟩ := lenV_eq hl
    exact Exec.val (v' := goInt n) (w' := w) (by simp [execOp, ho, resolve, invoke, builtin, hr]) (Res.same sim rfl)
  cases x' with
  | str l =>
    have e1 : a.eval y = .string ⟨l.toArray⟩ := r1
    rw [e1] at fin
    obtain ⟨g4, g5⟩ := guardB_eq.1 g3
    rw [lenX_eq] at g5
    refine fin l.length ?_ g5
    unfold okMln at hk
    split at hk
    · rename_i hu
      have hsz : (⟨l.toArray⟩ : ByteArray).size = l.length := rfl
      simp only [Builtin.len_, List.getElem?_toArray, List.getElem?_cons_zero, Sem.run_bind, run_underlying hu, Result.andThen_ok, Sem.run_pure, hsz]
    · cases g4
    · cases hk
  | nilm =>
    have e1 : a.eval y = .map none := r1
    rw [e1] at fin
    obtain ⟨g4, g5⟩ := guardB_eq.1 g3
    refine fin 0 ?_ (by rw [lenV, natK_eq]; exact g5)
    unfold okMln at hk
    split at hk
    · cases g4
    · rename_i hu; simp [Builtin.len_, run_underlying hu]
    · cases hk
  | map r =>
    obtain ⟨g6, g7⟩ := guardB_eq.1 g3
    obtain ⟨es, clock, g4, g5⟩ := atMap_eq.1 g7
    rw [lenX_eq] at g5
    obtain ⟨c, es', k1, k2, k3⟩ := sim.mapObj g4
    obtain ⟨c', k4, e1⟩ := r1
    rw [k1] at k4; cases k4
    rw [e1] at fin
    refine fin es.length ?_ g5
    have hl : es.length = es'.size := by rw [← Array.length_toList]; exact k3.length
    unfold okMln at hk
    split at hk
    · cases g6
    · rename_i hu; simp [Builtin.len_, run_underlying hu, run_getObj_map (P := p) (w := w) _ _ _ k2, hl]
    · cases hk
  | _ => cases g3

theorem op_cpy {t u : TypeId} {y i : Operand} {z : Nat} {x1 x2 : Opd} (ho : o.op = .call { callee := .builtin .copy, args := #[y, i], argTypes := #[t, u] }) (h1 : okO y x1 = true) (h2 : okO i x2 = true) (hk : okIad p t z = true)
    (hs : RelS φ s a.tmps) (sim : Sim cr B0 φ h w) (hx : aCpy s h z x1 x2 = some (v, h')) : Exec p a.eval o w (Res cr B0 φ h w v h') := by
  obtain ⟨v1, g1, g2⟩ := bnd_eq.1 hx
  obtain ⟨d, rfl, g3⟩ := onW_eq.1 g2
  obtain ⟨v2, g4, g5⟩ := bnd_eq.1 g3
  obtain ⟨x, rfl, g6⟩ := onW_eq.1 g5
  obtain ⟨e, he, hsz⟩ := okIad_eq hk
  have r1 : RelW φ d (a.eval y) := okO_rel hs h1 g1
  have r2 : RelW φ x (a.eval i) := okO_rel hs h2 g4
  obtain ⟨xs, n, news, g7, rx, ln, hlen, hfc⟩ := cellsOf_run (p := p) sim r2 g6
  have fin : ∀ (v' : Value) (w' : World), (Builtin.copy_ #[t, u] o.type #[a.eval y, a.eval i]).run p w = .ok v' w' → Res cr B0 φ h w v h' v' w' → Exec p a.eval o w (Res cr B0 φ h w v h') := by
    intro v' w' hrun hres
    exact Exec.val (v' := v') (w' := w') (by simp [execOp, ho, resolve, invoke, builtin, hrun]) hres
  cases d with
  | nils =>
    have e1 : a.eval y = .slice none 0 0 := r1
    rw [e1] at fin
    cases g7
    refine fin (goInt 0) w ?_ (Res.same sim rfl)
    have := hfc 0 (Nat.zero_le _) w rfl
    simp [Builtin.copy_, run_underlying he, run_size hsz, hlen, this]
  | sl b off z' len cap ex =>
    obtain ⟨c, base, lim, off', cap', k1, k2, k3, k4, k5, k6, k7⟩ := r1
    rw [k2] at fin
    obtain ⟨g8, g9⟩ := guardB_eq.1 g7
    rw [natK_eq] at g9
    obtain ⟨xs', g10, g11⟩ := bnd_eq.1 g9
    obtain ⟨T, cs, m1, m2⟩ := atOwn_eq.1 g11
    obtain ⟨cs', m3, m4⟩ := bnd_eq.1 m2
    rw [H.put_eq] at m4
    obtain ⟨rfl, rfl⟩ := lenV_eq m4
    obtain ⟨_, rfl⟩ := takeX_eq.1 g10
    obtain ⟨m5, rfl⟩ := splice_eq.1 m3
    have hz : z = z' := by simpa using g8
    subst hz
    obtain ⟨c', base', lim', m6, m7⟩ := sim.row m1
    rw [k1] at m6; cases m6
    have hmin := hfc (Nat.min n len) (Nat.min_le_left _ _) w rfl
    have rx' : RelL (RelW φ) (xs.take (Nat.min n len * z)) (news.take (Nat.min n len * z)) := rx.take _
    simp only [Nat.mul_eq] at m5 ⊢
    by_cases hc0 : cap' = 0
    · have hl0 : len = 0 := by omega
      subst hl0
      have : Nat.min n 0 = 0 := Nat.min_zero n
      rw [this] at hmin
      simp only [Nat.zero_mul, List.take_zero] at hmin
      refine fin (goInt 0) w ?_ ?_
      · have h0 : min n 0 = 0 := Nat.min_zero n
        simp [Builtin.copy_, run_underlying he, run_size hsz, hlen, hmin, h0, this, storeCells]
      · rw [this]
        simp only [Nat.mul_eq, Nat.zero_mul, List.take_zero, List.length_nil]
        obtain ⟨s1, e1⟩ := sim.write (w' := w) (o' := .row true T (cs.take off ++ [] ++ cs.drop (off + 0))) m1 rfl k1 rfl rfl (fun _ _ => rfl) rfl rfl rfl (.inr ⟨rfl, by
          simp only [List.append_nil, Nat.add_zero, List.take_append_drop]; exact m7⟩)
        exact ⟨φ, s1, e1, rfl⟩
    · have hoff := k3 hc0
      obtain ⟨w', n1, n2, n3, n4, n5, n6, n7⟩ := row_write (p := p) (off := off) m7 rx' (by omega) (by
        intro L hL
        have b1 := k7 L hL
        have b2 : Nat.min n len * z ≤ cap' * z := Nat.mul_le_mul_right _ (Nat.le_trans (Nat.min_le_right _ _) (by omega))
        have b3 : (xs.take (Nat.min n len * z)).length ≤ Nat.min n len * z := List.length_take_le _ _
        omega) (fun _ => by first | assumption | omega)
      obtain ⟨s1, x1⟩ := sim.write m1 rfl k1 rfl n2 n3 n4 n5 n6 (.inr ⟨rfl, n7⟩)
      refine fin (goInt (Nat.min n len)) w' ?_ ⟨φ, s1, x1, rfl⟩
      rw [hoff]
      have n1' := n1
      simp only [Nat.min_def] at hmin n1'
      simp [Builtin.copy_, run_underlying he, run_size hsz, hlen, Nat.min_def, hmin, n1']
  | _ => cases g7

def okClr (p : Program) (t : TypeId) (z : Nat) (zc : List W) : Bool := match sliceOf p t with | some e => zeroCellsIs p e zc && Nat.beq zc.length z | none => false
theorem op_clr {t : TypeId} {y : Operand} {z : Nat} {zc : List W} {x : Opd} (ho : o.op = .call { callee := .builtin .clear, args := #[y], argTypes := #[t] }) (h1 : okO y x = true) (hk : okClr p t z zc = true)
    (hs : RelS φ s a.tmps) (sim : Sim cr B0 φ h w) (hx : aClr s h z zc x = some (v, h')) : Exec p a.eval o w (Res cr B0 φ h w v h') := by
  obtain ⟨v1, g1, g2⟩ := bnd_eq.1 hx
  obtain ⟨x', rfl, g3⟩ := onW_eq.1 g2
  have r1 : RelW φ x' (a.eval y) := okO_rel hs h1 g1
  have fin : ∀ (v' : Value) (w' : World), (Builtin.clear_ #[t] o.type #[a.eval y]).run p w = .ok v' w' → Res cr B0 φ h w v h' v' w' → Exec p a.eval o w (Res cr B0 φ h w v h') := by
    intro v' w' hrun hres
    exact Exec.val (v' := v') (w' := w') (by simp [execOp, ho, resolve, invoke, builtin, hrun]) hres
  unfold okClr at hk
  split at hk
  · rename_i e he
    have he := sliceOf_eq he
    simp only [Bool.and_eq_true] at hk
    have hzl : zc.length = z := by simpa using hk.2
    obtain ⟨z', q1, q2⟩ := zeroCellsIs_eq hk.1
    have q2 := q2 φ
    have hzz : zc.length = z'.cells.size := by rw [← Array.length_toList]; exact q2.length
    cases x' with
    | nils =>
      have e1 : a.eval y = .slice none 0 0 := r1
      rw [e1] at fin
      cases g3
      exact fin (.tuple #[]) w (by simp [Builtin.clear_, run_underlying he]) (Res.same sim ⟨#[], rfl, trivial⟩)
    | sl b off z1 len cap ex =>
      obtain ⟨c, base, lim, off', cap', k1, k2, k3, k4, k5, k6, k7⟩ := r1
      rw [k2] at fin
      cases len with
      | zero =>
        cases g3
        exact fin (.tuple #[]) w (by simp [Builtin.clear_, run_underlying he]) (Res.same sim ⟨#[], rfl, trivial⟩)
      | succ n =>
        obtain ⟨g8, g9⟩ := guardB_eq.1 (show guardB (Nat.beq z z1) (atOwn h b (fun T cs => bnd (reps (n + 1) zc) (fun zs => bnd (splice off zs cs) (fun cs' => h.put b (.row true T cs') (fun h => some (V.t [], h)))))) = some (v, h') from g3)
        have hz : z = z1 := by simpa using g8
        subst hz
        obtain ⟨T, cs, m1, m2⟩ := atOwn_eq.1 g9
        obtain ⟨zs, m3, m4⟩ := bnd_eq.1 m2
        rw [reps_eq] at m3
        cases m3
        obtain ⟨cs', m5, m6⟩ := bnd_eq.1 m4
        rw [H.put_eq] at m6
        cases m6
        obtain ⟨m7, rfl⟩ := splice_eq.1 m5
        obtain ⟨c', base', lim', m8, m9⟩ := sim.row m1
        rw [k1] at m8; cases m8
        have hoff := k3 (by omega)
        have rz : RelL (RelW φ) (List.replicate (n + 1) zc).flatten (Builtin.zeroCells z'.cells (n + 1)).toList := by
          show RelL (RelW φ) _ (madeCells z'.cells ((n + 1) * z'.cells.size)).toList
          rw [made_list]; exact q2.flat _
        have hlen : (List.replicate (n + 1) zc).flatten.length = (n + 1) * z := by rw [rz.length, Array.length_toList, size_zeroCells, ← hzz, hzl]
        obtain ⟨w', n1, n2, n3, n4, n5, n6, n7⟩ := row_write (p := p) (off := off) m9 rz (by omega) (by
          intro L hL
          have b1 := k7 L hL
          have b2 : (n + 1) * z ≤ cap' * z := Nat.mul_le_mul_right _ (by omega)
          omega) (fun _ => by first | assumption | omega)
        obtain ⟨s1, x1⟩ := sim.write m1 rfl k1 rfl n2 n3 n4 n5 n6 (.inr ⟨rfl, n7⟩)
        refine fin (.tuple #[]) w' ?_ ⟨φ, s1, x1, ⟨#[], rfl, trivial⟩⟩
        rw [hoff]
        simp [Builtin.clear_, run_underlying he, q1, n1]
    | _ => cases g3
  · cases hk
end
end Go.Am
namespace Go.Am
set_option autoImplicit false
set_option linter.unusedSimpArgs false
set_option linter.unusedVariables false
section
variable {cr : CR} {B0 : Nat} {φ : Phi} {h h' : H} {w : World} {p : Program} {o : Oper} {s : S} {a : Act} {v : V}

/-! pointers that are one -/
def okPtrT (p : Program) (t : TypeId) : Bool := match p.underlying t with | some (.pointer e) => (p.info? e).isSome | _ => false
theorem op_eqp {op : BinOp} {neq : Bool} {t u : TypeId} {y z : Operand} {x1 x2 : Opd} (ho : o.op = .binOp op t y z u) (hop : op = bif neq then .neq else .eql) (ht : okPtrT p t = true)
    (hy : okO y x1 = true) (hz : okO z x2 = true) (hs : RelS φ s a.tmps) (sim : Sim cr B0 φ h w) (hx : aEqp s h neq x1 x2 = some (v, h')) : Exec p a.eval o w (Res cr B0 φ h w v h') := by
  obtain ⟨v1, g1, g2⟩ := bnd_eq.1 hx
  obtain ⟨b, off, rfl, g3⟩ := onPtr_eq.1 g2
  obtain ⟨v2, g4, g5⟩ := bnd_eq.1 g3
  obtain ⟨b', off', rfl, g6⟩ := onPtr_eq.1 g5
  obtain ⟨g7, g8⟩ := guardB_eq.1 g6
  obtain ⟨g9, g10⟩ := guardB_eq.1 g8
  have g7 := of_decide_eq_true g7
  have g9 : off = off' := by simpa using g9
  subst g7 g9
  rw [boolK_eq] at g10
  cases g10
  obtain ⟨c, base, lim, k1, k2⟩ := okO_rel hs hy g1
  obtain ⟨c', base', lim', k3, k4⟩ := okO_rel hs hz g4
  rw [k1] at k3; cases k3
  unfold okPtrT at ht
  split at ht
  · rename_i e he
    obtain ⟨i, hi⟩ := Option.isSome_iff_exists.1 ht
    have hq : ∀ d : Nat, (Op.equalIn (d + 1) t (.pointer (some ⟨c, base + off, none⟩)) (.pointer (some ⟨c, base + off, none⟩))).run p w = .ok true w := fun d => by
      simp [Op.equalIn, run_underlying he, sizeOf, typeInfo, hi, run_sameAddr_same]
    refine Exec.val (v' := .bool (!neq)) (w' := w) ?_ (Res.same sim rfl)
    subst hop
    cases neq <;> simp [execOp, ho, k2, k4, eqGuard, binOp, Op.equal, Op.maxDepth, hq 9999]
  · cases ht

/-! an array in memory, as a slice -/
def okSla (p : Program) (t : TypeId) (n z : Nat) : Bool := match p.underlying t with | some (.array m e) => Nat.beq m n && sizeIs p e z | _ => false
theorem op_sla {t : TypeId} {y : Operand} {n z : Nat} {x : Opd} (ho : o.op = .slice t y none none none) (hy : okO y x = true) (ht : okSla p t n z = true) (hs : RelS φ s a.tmps) (sim : Sim cr B0 φ h w)
    (hx : aSla s h n z x = some (v, h')) : Exec p a.eval o w (Res cr B0 φ h w v h') := by
  obtain ⟨v1, g1, g2⟩ := bnd_eq.1 hx
  obtain ⟨b, off, rfl, g3⟩ := onPtr_eq.1 g2
  obtain ⟨T, cs, g4, g5⟩ := atOwn_eq.1 g3
  obtain ⟨g6, g7⟩ := guardB_eq.1 g5
  cases g7
  have g6 : off + n * z ≤ cs.length := by simpa using g6
  obtain ⟨c, base, lim, k1, k2⟩ := okO_rel hs hy g1
  obtain ⟨c', base', lim', k3, cs', T', fr, q1, q2, q3, q4⟩ := sim.row g4
  rw [k1] at k3; cases k3
  obtain ⟨_, hlim, _⟩ := q4 rfl
  unfold okSla at ht
  split at ht
  · rename_i m e he
    simp only [Bool.and_eq_true] at ht
    have hm : m = n := by simpa using ht.1
    subst hm
    refine Exec.val (v' := .slice (some ⟨c, base + off, none⟩) m m) (w' := w) ?_ (Res.same sim ⟨c, base, lim, base + off, m, k1, rfl, fun _ => rfl, Nat.le_refl _, Nat.le_refl _, fun _ => rfl, fun L hL => by rw [hlim] at hL; cases hL; omega⟩)
    simp only [execOp, ho, Instr.sliceAt, Sem.run_bind, run_underlying he, Result.andThen_ok, k2, Instr.sureAddr, Option.map_none, Instr.sliceBounds, Sem.run_pure, run_size ht.2, Nat.zero_mul, Nat.sub_zero]
    by_cases h0 : m = 0
    · subst h0; simp
    · rw [if_neg h0]; simp [Addr.add]
  · cases ht

/-! bytes -/
theorem bytesX_rel : ∀ {l : List W} {m : List Value} {r : List UInt8}, RelL (RelW φ) l m → bytesX l = some r → ∃ ns : List Int, m = ns.map (Value.int .u8) ∧ r = ns.map fun n => UInt8.ofNat n.toNat
  | [], [], r, _, hx => by cases hx; exact ⟨[], rfl, rfl⟩
  | x :: l, y :: m, r, ⟨h1, h2⟩, hx => by
    have hx' : wInt (fun k n => guardB (decide (k = .u8)) (bnd (bytesX l) (fun r => some (UInt8.ofNat n.toNat :: r)))) x = some r := hx
    cases x <;> simp only [wInt, reduceCtorEq] at hx'
    rename_i k n
    obtain ⟨g1, g2⟩ := guardB_eq.1 hx'
    have g1 := of_decide_eq_true g1
    subst g1
    obtain ⟨r', g3, g4⟩ := bnd_eq.1 g2
    cases g4
    obtain ⟨ns, e1, e2⟩ := bytesX_rel h2 g3
    exact ⟨n :: ns, by rw [e1]; simp only [List.map_cons]; rw [show y = Value.int .u8 n from h1], by rw [e2]; rfl⟩
def okB2s (p : Program) (t u : TypeId) : Bool := match p.underlying t, p.underlying u with | some (.slice e), some .string => (match p.underlying e with | some (.int .u8) => true | _ => false) | _, _ => false
theorem fold_push (ns : List Int) : ∀ (r : ByteArray), ns.foldl (fun r n => r.push (UInt8.ofNat n.toNat)) r = ⟨r.data ++ (ns.map fun n => UInt8.ofNat n.toNat).toArray⟩ := by
  induction ns with
  | nil => intro r; simp
  | cons n ns ih =>
    intro r
    rw [List.foldl_cons, ih]
    apply ByteArray.ext
    simp [ByteArray.push]
theorem op_b2s {t u : TypeId} {y : Operand} {x : Opd} (ho : o.op = .convert t u y) (hy : okO y x = true) (ht : okB2s p t u = true) (hs : RelS φ s a.tmps) (sim : Sim cr B0 φ h w)
    (hx : aB2s s h x = some (v, h')) : Exec p a.eval o w (Res cr B0 φ h w v h') := by
  obtain ⟨v1, g1, g2⟩ := bnd_eq.1 hx
  obtain ⟨x', rfl, g3⟩ := onW_eq.1 g2
  have hr := okO_rel hs hy g1
  unfold okB2s at ht
  split at ht
  · rename_i e he hu
    split at ht
    · rename_i hb
      cases x' <;> simp only [b2sW, reduceCtorEq] at g3
      case nils =>
        cases g3
        have hr' : a.eval y = .slice none 0 0 := hr
        refine Exec.val (v' := .string ⟨#[]⟩) (w' := w) ?_ (Res.same sim rfl)
        have := run_convert_bytes_string (P := p) w t u e none 0 0 he hb hu
        simp only [execOp, ho, hr', Sem.run_bind, this]
        simp [Conv.bytesToString]
        rfl
      case sl b off z len cap ex =>
        obtain ⟨g4, g5⟩ := guardB_eq.1 g3
        have g4 : z = 1 := by simpa using g4
        subst g4
        obtain ⟨own, T, cs, g6, g7⟩ := atRow_eq.1 g5
        obtain ⟨l, g8, g9⟩ := bnd_eq.1 g7
        obtain ⟨r, g10, g11⟩ := bnd_eq.1 g9
        cases g11
        rw [dropX_eq] at g8
        obtain ⟨g12, rfl⟩ := takeX_eq.1 g8
        obtain ⟨c, base, lim, off1, cap', q1, q2, q3, q4, q5, q6, q7⟩ := hr
        obtain ⟨c', base', lim', k3, k4⟩ := sim.row g6
        rw [q1] at k3; cases k3
        have main : ∃ ns : List Int, r = ns.map (fun n => UInt8.ofNat n.toNat) ∧ (Conv.bytesToString (.slice (some ⟨c, off1, none⟩) len cap')).run p w = .ok (.string (ns.foldl (fun r n => r.push (UInt8.ofNat n.toNat)) ByteArray.empty)) w := by
          rcases Nat.eq_zero_or_pos len with e0 | e0
          · subst e0
            simp only [List.take_zero] at g10
            cases g10
            exact ⟨[], rfl, by simp [Conv.bytesToString, loadCells, loadCellsFrom]⟩
          · simp only [List.length_drop] at g12
            obtain ⟨m, l1, l2, l3⟩ := row_part k4 (off := off) (n := len) (by omega)
            obtain ⟨ns, e1, e2⟩ := bytesX_rel l2 g10
            refine ⟨ns, e2, ?_⟩
            have hoff := q3 (by omega)
            have hload := run_cells (p := p) (w := w) (c := c) (o := off1) (l := m) (fun j u hu => by rw [hoff]; exact l3 j u hu)
            rw [l1, e1] at hload
            exact run_bytesToString w ⟨c, off1, none⟩ len cap' ns (by simpa using hload)
        obtain ⟨ns, e1, e2⟩ := main
        refine Exec.val (v' := .string ⟨r.toArray⟩) (w' := w) ?_ (Res.same sim rfl)
        have := run_convert_bytes_string (P := p) w t u e (some ⟨c, off1, none⟩) len cap' he hb hu
        simp only [execOp, ho, q2, Sem.run_bind, this, e2, Result.andThen_ok, Sem.run_pure, fold_push, e1]
        simp
    · cases ht
  · cases ht
end
end Go.Am
namespace Go.Am
set_option autoImplicit false
set_option linter.unusedSimpArgs false
set_option linter.unusedVariables false
section
variable {cr : CR} {B0 : Nat} {φ : Phi} {h h' : H} {w : World} {p : Program} {o : Oper} {s : S} {a : Act} {v : V}

/-! raw pointers -/
def okCvu (p : Program) (t u : TypeId) : Bool := match p.underlying t, p.underlying u with | some (.pointer e), some .unsafePointer => (match p.info? e with | some i => !(Nat.beq i.size 0) | none => false) | _, _ => false
theorem op_cvu {t u : TypeId} {y : Operand} {x : Opd} (ho : o.op = .convert t u y) (hy : okO y x = true) (ht : okCvu p t u = true) (hs : RelS φ s a.tmps) (sim : Sim cr B0 φ h w)
    (hx : aCvu s h x = some (v, h')) : Exec p a.eval o w (Res cr B0 φ h w v h') := by
  obtain ⟨v1, g1, g2⟩ := bnd_eq.1 hx
  obtain ⟨b, off, rfl, g3⟩ := onPtr_eq.1 g2
  obtain ⟨own, T, cs, g4, g5⟩ := atRow_eq.1 g3
  obtain ⟨g6, g7⟩ := guardB_eq.1 g5
  cases g7
  have g6 : off < cs.length := by simpa [Nat.blt_eq] using g6
  obtain ⟨c, base, lim, k1, k2⟩ := okO_rel hs hy g1
  obtain ⟨c', base', lim', k3, cs', T', fr, q1, q2, q3, q4⟩ := sim.row g4
  rw [k1] at k3; cases k3
  unfold okCvu at ht
  split at ht
  · rename_i e he hu
    split at ht
    · rename_i i hi
      have hsz : i.size ≠ 0 := by intro e0; rw [e0] at ht; cases ht
      refine Exec.val (v' := .pointer (some ⟨c, base + off, none⟩)) (w' := w) ?_ (Res.same sim ⟨c, base, lim, k1, rfl⟩)
      have := Lib.run_to_unsafe (P := p) w (e := T') (cells := cs'.size) ⟨c, base + off, none⟩ he hu hi hsz (by simp [World.shape?, q1]) (by show base + off < cs'.size; omega)
      simp only [execOp, ho, k2, Sem.run_bind, this, Result.andThen_ok, Sem.run_pure]
    · cases ht
  · cases ht
def okCvp (p : Program) (t u' : TypeId) (u n : Nat) : Bool := match p.underlying t, p.underlying u' with | some .unsafePointer, some (.pointer e) => Nat.beq e u && (p.info? u).isSome && liesAt p p.depth u (n / p.cellsOf u) 0 u 1 | _, _ => false
theorem op_cvp {t u' : TypeId} {y : Operand} {u n : Nat} {x : Opd} (ho : o.op = .convert t u' y) (hy : okO y x = true) (ht : okCvp p t u' u n = true) (hs : RelS φ s a.tmps) (sim : Sim cr B0 φ h w)
    (hx : aCvp s h u n x = some (v, h')) : Exec p a.eval o w (Res cr B0 φ h w v h') := by
  obtain ⟨v1, g1, g2⟩ := bnd_eq.1 hx
  obtain ⟨b, off, rfl, g3⟩ := onPtr_eq.1 g2
  obtain ⟨T, cs, g4, g5⟩ := atOwn_eq.1 g3
  obtain ⟨g6, g7⟩ := guardB_eq.1 g5
  obtain ⟨g8, g9⟩ := guardB_eq.1 g7
  obtain ⟨g10, g11⟩ := guardB_eq.1 g9
  cases g11
  have g6 : T = 2 * u + 1 := by simpa using g6
  have g8 : off = 0 := by simpa using g8
  have g10 : cs.length = n := by simpa using g10
  subst g8
  obtain ⟨c, base, lim, k1, k2⟩ := okO_rel hs hy g1
  obtain ⟨c', base', lim', k3, cs', T', fr, q1, q2, q3, q4⟩ := sim.row g4
  rw [k1] at k3; cases k3
  obtain ⟨rfl, _, hT, hx⟩ := q4 rfl
  obtain ⟨rfl, hsz⟩ := hx (by omega)
  have hT : T' = u := by rw [hT, g6]; exact (by omega : (2 * u + 1) / 2 = u)
  subst hT
  unfold okCvp at ht
  split at ht
  · rename_i e he hu
    simp only [Bool.and_eq_true] at ht
    have he' : e = T' := by simpa using ht.1.1
    subst he'
    obtain ⟨i, hi⟩ := Option.isSome_iff_exists.1 ht.1.2
    refine Exec.val (v' := .pointer (some ⟨c, 0 + 0, none⟩)) (w' := w) ?_ (Res.same sim ⟨c, 0, lim, k1, rfl⟩)
    have := Lib.run_from_unsafe (P := p) w (src := t) (dst := u') (u := e) (e := e) (cells := cs'.size) ⟨c, 0 + 0, none⟩ he hu hi (by simp [World.shape?, q1]) (by show liesAt p p.depth e (cs'.size / p.cellsOf e) 0 e 1 = true; rw [hsz, g10]; exact ht.2)
    simp only [execOp, ho, k2, Sem.run_bind, this, Result.andThen_ok, Sem.run_pure]
  · cases ht
/-- a function that hands its argument back -/
def okNes (p : Program) (f : Nat) : Bool := match p.funcs[f]? with | some fn => fn.body.isNone && (fn.name == "internal/abi.NoEscape") && (fn.origin == "") | none => false
theorem noEsc_next : Extern.allNextRows.lookup "internal/abi.NoEscape" = none := by kernel_rfl
theorem noEsc_next0 : Extern.allNextRows.lookup "" = none := by kernel_rfl
theorem noEsc_gen : Extern.allGenericRows.lookup "internal/abi.NoEscape" = none := by kernel_rfl
theorem noEsc_typed : Extern.allTypedRows.lookup "internal/abi.NoEscape" = none := by kernel_rfl
theorem noEsc_row : Extern.allRows.lookup "internal/abi.NoEscape" = some Extern.AbiNoEscape.same := by kernel_rfl
theorem op_nes {f : Nat} {y : Operand} {ts : Array TypeId} {x : Opd} (ho : o.op = .call ⟨.value (.func f), ⟨[y]⟩, ts⟩) (hy : okO y x = true) (ht : okNes p f = true) (hs : RelS φ s a.tmps) (sim : Sim cr B0 φ h w)
    (hx : aMv s h x = some (v, h')) : Exec p a.eval o w (Res cr B0 φ h w v h') := by
  obtain ⟨v1, g1, g2⟩ := bnd_eq.1 hx
  cases g2
  have hr := okO_rel hs hy g1
  unfold okNes at ht
  split at ht
  · rename_i fn hfn
    simp only [Bool.and_eq_true] at ht
    have hname : fn.name = "internal/abi.NoEscape" := by simpa using ht.1.2
    have horig : fn.origin = "" := by simpa using ht.2
    refine Exec.val (v' := a.eval y) (w' := w) ?_ (Res.same sim hr)
    have hn : Extern.findNext fn = none := by
      simp only [Extern.findNext, hname, horig, noEsc_next, noEsc_next0, Option.map_none]
      rfl
    have hf : Extern.find fn = some Extern.AbiNoEscape.same := by
      simp only [Extern.find, hname, noEsc_gen, noEsc_typed, noEsc_row, Option.map_none]
      rfl
    have := run_callFunc_extern hfn (by rw [hname]; decide) ht.1.1 hn hf #[a.eval y] w
    rw [Lib.run_noEscape] at this
    have hev : a.eval (.func f) = .func (.func f) #[] #[] := rfl
    simp only [execOp, ho, resolve, hev, Deferred.ofValue, Sem.run_bind, Sem.run_pure, Result.andThen_ok, invoke]
    simpa using this
  · cases ht
/-- where a slice's elements lie -/
theorem op_usd {y : Operand} {ts : Array TypeId} {x : Opd} (ho : o.op = .call ⟨.builtin .unsafeSliceData, ⟨[y]⟩, ts⟩) (hy : okO y x = true) (hs : RelS φ s a.tmps) (sim : Sim cr B0 φ h w)
    (hx : aUsd s h x = some (v, h')) : Exec p a.eval o w (Res cr B0 φ h w v h') := by
  obtain ⟨v1, g1, g2⟩ := bnd_eq.1 hx
  obtain ⟨x', rfl, g3⟩ := onW_eq.1 g2
  have hr := okO_rel hs hy g1
  cases x' <;> simp only [usdW, reduceCtorEq] at g3
  case nils =>
    cases g3
    have hr' : a.eval y = .slice none 0 0 := hr
    refine Exec.val (v' := .pointer none) (w' := w) ?_ (Res.same sim rfl)
    have := Lib.run_unsafeSliceData_nil (P := p) w ts o.type 0 0
    simp [execOp, ho, resolve, invoke, builtin, hr', this]
  case sl b off z len cap ex =>
    obtain ⟨g4, g5⟩ := guardB_eq.1 g3
    cases g5
    have g4 : 0 < cap := by simpa [Nat.blt_eq] using g4
    obtain ⟨c, base, lim, off1, cap', q1, q2, q3, q4, q5, q6, q7⟩ := hr
    refine Exec.val (v' := .pointer (some ⟨c, off1, none⟩)) (w' := w) ?_ (Res.same sim ⟨c, base, lim, q1, by rw [q3 (by omega)]⟩)
    have := Lib.run_unsafeSliceData_row (P := p) w ts o.type ⟨c, off1, none⟩ len cap' (by omega)
    simp [execOp, ho, resolve, invoke, builtin, q2, this]
theorem liesAt_one {e : TypeId} (hc : p.cellsOf e = 1) (count off n : Nat) (hn : off + n ≤ count) : liesAt p p.depth e count off e n = true := by
  have hd : p.depth = (2 * (p.types.size + Made.depth) + 1) + 1 := rfl
  rw [hd]
  simp only [liesAt, Bool.or_eq_true]
  left
  rw [hd]
  simp [rowAt, hc, hn, sameLayout, Nat.mod_one]
theorem run_loadBytesI : ∀ (ns : List Int) (ad : Addr) (acc : ByteArray), (∀ j x, ns[j]? = some x → w.cell? (ad.add j) = some (.int .u8 x)) →
    (loadBytes ad acc ns.length).run p w = .ok ⟨acc.data ++ (ns.map fun n => UInt8.ofNat n.toNat).toArray⟩ w
  | [], ad, acc, _ => by simp [loadBytes]
  | x :: ns, ad, acc, h => by
    have h0 : w.cell? ad = some (.int .u8 x) := by
      have := h 0 x rfl
      simpa [Addr.add] using this
    have ih := run_loadBytesI ns (ad.add 1) (acc.push (UInt8.ofNat x.toNat)) (fun j y hy => by
      have := h (j + 1) y (by simpa using hy)
      have e : (ad.add 1).add j = ad.add (j + 1) := by
        unfold Addr.add
        by_cases hj : j = 0
        · subst hj; simp
        · simp [hj]; omega
      rw [e]; exact this)
    simp only [List.length_cons, loadBytes, Sem.run_bind, run_load, h0, Result.andThen]
    rw [show x.toNat.toUInt8 = UInt8.ofNat x.toNat from rfl, ih]
    congr 1
    apply ByteArray.ext
    simp [ByteArray.push]
def okUst (p : Program) (t : TypeId) (e : Nat) : Bool := match p.underlying t with | some (.pointer e') => Nat.beq e' e && Nat.beq (p.cellsOf e) 1 | _ => false
theorem op_ust {y1 y2 : Operand} {t u : TypeId} {e : Nat} {x1 x2 : Opd} (ho : o.op = .call ⟨.builtin .unsafeString, ⟨[y1, y2]⟩, ⟨[t, u]⟩⟩) (h1 : okO y1 x1 = true) (h2 : okO y2 x2 = true) (ht : okUst p t e = true) (hs : RelS φ s a.tmps) (sim : Sim cr B0 φ h w)
    (hx : aUst s h e x1 x2 = some (v, h')) : Exec p a.eval o w (Res cr B0 φ h w v h') := by
  obtain ⟨v1, g1, g2⟩ := bnd_eq.1 hx
  obtain ⟨b, off, rfl, g3⟩ := onPtr_eq.1 g2
  obtain ⟨v2, g4, g5⟩ := bnd_eq.1 g3
  obtain ⟨k, n, rfl, g6⟩ := onNat_eq.1 g5
  obtain ⟨g7, g8⟩ := guardB_eq.1 g6
  obtain ⟨g9, g10⟩ := guardB_eq.1 g8
  rw [natK_eq] at g10
  have g7 : 0 < n := by simpa [Nat.blt_eq] using g7
  have g9 : n ≤ 9223372036854775807 := by simpa using g9
  obtain ⟨T, cs, g11, g12⟩ := atOwn_eq.1 g10
  obtain ⟨g13, g14⟩ := guardB_eq.1 g12
  obtain ⟨l, g15, g16⟩ := bnd_eq.1 g14
  obtain ⟨r, g17, g18⟩ := bnd_eq.1 g16
  rw [H.put_eq] at g18
  cases g18
  have g13 : T = 2 * e := by simpa using g13
  rw [dropX_eq] at g15
  obtain ⟨g19, rfl⟩ := takeX_eq.1 g15
  simp only [List.length_drop] at g19
  obtain ⟨c, base, lim, k1, k2⟩ := okO_rel hs h1 g1
  have k5 : a.eval y2 = .int k (Int.ofNat n) := okO_rel hs h2 g4
  obtain ⟨c', base', lim', k3, k4⟩ := sim.row g11
  rw [k1] at k3; cases k3
  obtain ⟨m, l1, l2, l3⟩ := row_part k4 (off := off) (n := n) (by omega)
  obtain ⟨cs', T', fr, q1, q2, q3, q4⟩ := k4
  obtain ⟨rfl, hlim, hT, _⟩ := q4 rfl
  have hT : T' = e := by rw [hT, g13]; exact Nat.mul_div_cancel_left e (by decide)
  subst hT
  obtain ⟨ns, e1, e2⟩ := bytesX_rel l2 g17
  have hns : ns.length = n := by rw [← l1, e1]; simp
  unfold okUst at ht
  split at ht
  · rename_i e' he
    simp only [Bool.and_eq_true] at ht
    have he' : e' = T' := by simpa using ht.1
    subst he'
    have hc1 : p.cellsOf e' = 1 := by simpa using ht.2
    have hload := run_loadBytesI (p := p) (w := w) ns ⟨c, base + off, none⟩ .empty (fun j x hj => l3 j _ (by rw [e1, List.getElem?_map, hj]; rfl))
    rw [hns] at hload
    let w' := w.freeze ⟨c, base + off, none⟩ n
    have hnz : ¬ n = 0 := by omega
    have hsz : w'.heap.size = w.heap.size := by simp [w', World.freeze, hnz]
    have hoth : ∀ q, q ≠ c → w'.heap[q]? = w.heap[q]? := fun q hq => by simp [w', World.freeze, hnz, Array.getElem?_modify, Ne.symm hq]
    have hc0 : w'.heap[c]? = some (.cells cs' e' (base + off, base + off + n)) := by simp [w', World.freeze, hnz, Array.getElem?_modify, q1]
    have hw2 : w'.os = w.os ∧ w'.tape = w.tape ∧ w'.output = w.output := by
      simp [w', World.freeze, show ¬ n = 0 by omega]
    obtain ⟨s1, x1⟩ := sim.write' (w' := w') (o' := .row false T cs) g11 rfl k1 rfl hsz hoth hw2.1 hw2.2.1 hw2.2.2 (.inr ⟨cs', e', _, hc0, q2, q3, fun e => by cases e⟩)
    refine Exec.val (v' := .string ⟨(ns.map fun n => UInt8.ofNat n.toNat).toArray⟩) (w' := w') ?_ ⟨φ, s1, x1, by rw [e2]; rfl⟩
    · have hrun : (Builtin.unsafeString_ #[t, u] o.type #[.pointer (some ⟨c, base + off, none⟩), .int k (Int.ofNat n)]).run p w = .ok (.string ⟨(ns.map fun n => UInt8.ofNat n.toNat).toArray⟩) w' := by
        have hlies : liesAt p p.depth e' (cs'.size / p.cellsOf e') (base + off) e' n = true := by
          have hb : base + off + n ≤ cs'.size := by omega
          rw [hc1, Nat.div_one]; exact liesAt_one hc1 cs'.size (base + off) n hb
        have hmax : ¬ ((n : Int) > IntKind.i64.max) := by
          have : IntKind.i64.max = 9223372036854775807 := by decide
          rw [this]; omega
        have hn0 : ¬ ((n : Int) < 0) := by omega
        have hn1 : ¬ ((n : Int) = 0) := by omega
        change (Bind.bind (asInt (.int k (Int.ofNat n))) _).run p w = _
        have hsh : w.shape? c = some (e', cs'.size) := by simp [World.shape?, q1]
        simp [asInt, asIntOf, hmax, hn0, hn1, variablesAt, elemOf, run_underlying he, hsh, hlies, hload, w', hnz, show ¬ (9223372036854775807 : Int) < (n : Int) by omega]
      simp [execOp, ho, resolve, invoke, builtin, k2, k5]
      rw [show (Builtin.unsafeString_ ⟨[t, u]⟩ o.type #[.pointer (some ⟨c, base + off, none⟩), .int k (n : Int)]).run p w = _ from hrun]
      rfl
  · cases ht
theorem intR_eq {r : R} : intR r = some (v, h') ↔ r = some (v, h') ∧ ∃ k n, v = .w (.int k n) := by
  unfold intR
  rw [bnd2_eq]
  constructor
  · rintro ⟨u, h1, e1, e2⟩
    obtain ⟨k, n, rfl, e3⟩ := onInt_eq.1 e2
    cases e3
    exact ⟨e1, k, n, rfl⟩
  · rintro ⟨e1, k, n, rfl⟩
    exact ⟨_, _, e1, rfl⟩
theorem lki_lkp {q : Q} {k : IntKind} {x1 x2 : Opd} (hx : aLki s h q k x1 x2 = some (v, h')) : aLkp s h q (.w (.int k 0)) false x1 x2 = some (v, h') ∧ (∃ k n, v = .w (.int k n)) ∧ ∃ kv : U, opd s x2 = some kv.v ∧ keyEq q kv kv = some true := by
  obtain ⟨kv, g1, g2⟩ := bnd_eq.1 hx
  obtain ⟨kv, rfl, g3⟩ := onU_eq.1 g2
  obtain ⟨b, g4, g5⟩ := bnd_eq.1 g3
  obtain ⟨rfl, g6⟩ := guardB_eq.1 g5
  obtain ⟨g7, g8⟩ := intR_eq.1 g6
  exact ⟨g7, g8, kv, g1, g4⟩
theorem op_lki {t : TypeId} {y i : Operand} {q : Q} {k : IntKind} {x1 x2 : Opd} (ho : o.op = .lookup t y i false) (hy : okO y x1 = true) (hi : okO i x2 = true) (hm : okMap p t q (some (.w (.int k 0))) = true) (hs : RelS φ s a.tmps) (sim : Sim cr B0 φ h w)
    (hx : aLki s h q k x1 x2 = some (v, h')) : Exec p a.eval o w (Res cr B0 φ h w v h') := op_lkp ho hy hi hm hs sim (lki_lkp hx).1
end
end Go.Am
namespace Go.Am
set_option autoImplicit false
set_option linter.unusedSimpArgs false
set_option linter.unusedVariables false
/-! rules by which a run over known slots is worked out -/
section
variable {cl : Call} {s t : S} {h h' : H} {p q : P} {v : V} {β : Type}
theorem insL_nil : insL cl [] s h = some (s, h) := rfl
theorem insL_cons {i : I} {l : List I} : insL cl (i :: l) s h = bnd2 (ins cl s h i) (insL cl l) := rfl
theorem ins_free {d : Option P} {a : A} : ins cl s h ⟨d, a, none⟩ = bnd2 (act cl s h a) (fun v h => setD s h d v) := rfl
noncomputable def gsel (v : V) (c : Bool) (x y : SH) : SH := bif (V.rec (motive := fun _ => Bool) (isB c) (fun _ => false) (fun _ => false) v) then x else y
theorem gsel_t {b : Bool} {x y : SH} : gsel (.w (.bool b)) true x y = bif b then x else y := by cases b <;> rfl
theorem gsel_f {b : Bool} {x y : SH} : gsel (.w (.bool b)) false x y = bif b then y else x := by cases b <;> rfl
theorem ins_g {d : Option P} {a : A} {g : P} {c : Bool} : ins cl s h ⟨d, a, some (g, c)⟩ = bnd (s.get g) (fun v => gsel v c (bnd2 (act cl s h a) (fun v h => setD s h d v)) (setD s h d (.t []))) := by
  show bnd (wanted s (some (g, c))) (fun b => Bool.rec (motive := fun _ => SH) (setD s h d (.t [])) (insA cl s h d a) b) = _
  have hw : wanted s (some (g, c)) = bnd (s.get g) (fun v => boolK (V.rec (motive := fun _ => Bool) (isB c) (fun _ => false) (fun _ => false) v) some) := rfl
  rw [hw]
  cases hg : s.get g with
  | none => rfl
  | some v =>
    simp only [bnd_some, boolK_eq, gsel]
    cases (V.rec (motive := fun _ => Bool) (isB c) (fun _ => false) (fun _ => false) v : Bool) <;> rfl
theorem setD_some : setD s h (some p) v = some (Tr.put (some v) p s, h) := by simp [setD]
theorem setD_none : setD s h none v = some (s, h) := rfl
theorem put_h {l r : S} {w x : Option V} : Tr.put x .h (.n l w r) = .n l x r := rfl
theorem put_l {l r : S} {w x : Option V} : Tr.put x (.l p) (.n l w r) = .n (Tr.put x p l) w r := rfl
theorem put_r {l r : S} {w x : Option V} : Tr.put x (.r p) (.n l w r) = .n l w (Tr.put x p r) := rfl
theorem put_he {x : Option V} : Tr.put x .h (.e : S) = .n .e x .e := rfl
theorem put_le {x : Option V} : Tr.put x (.l p) (.e : S) = .n (Tr.put x p .e) none .e := rfl
theorem put_re {x : Option V} : Tr.put x (.r p) (.e : S) = .n .e none (Tr.put x p .e) := rfl
theorem hput_h {l r : Tr O} {w x : Option O} : Tr.put x .h (.n l w r) = .n l x r := rfl
theorem hput_l {l r : Tr O} {w x : Option O} : Tr.put x (.l p) (.n l w r) = .n (Tr.put x p l) w r := rfl
theorem hput_r {l r : Tr O} {w x : Option O} : Tr.put x (.r p) (.n l w r) = .n l w (Tr.put x p r) := rfl
theorem hput_he {x : Option O} : Tr.put x .h (.e : Tr O) = .n .e x .e := rfl
theorem hput_le {x : Option O} : Tr.put x (.l p) (.e : Tr O) = .n (Tr.put x p .e) none .e := rfl
theorem hput_re {x : Option O} : Tr.put x (.r p) (.e : Tr O) = .n .e none (Tr.put x p .e) := rfl
theorem opd_t : opd s (.t p) = s.get p := rfl
theorem opd_c : opd s (.c v) = some v := rfl
theorem opds_nil : opds s [] = some [] := rfl
theorem opds_cons {x : Opd} {xs : List Opd} : opds s (x :: xs) = bnd (opd s x) (fun v => bnd (opds s xs) (fun vs => some (v :: vs))) := rfl
theorem act_mv {x : Opd} : act cl s h (.mv x) = bnd (opd s x) (fun v => some (v, h)) := rfl
theorem act_bin {o : BinOp} {x y : Opd} : act cl s h (.bin o x y) = bnd (opd s x) (fun a => onW a (fun a => bnd (opd s y) (fun b => onW b (fun b => bnd (bopW o a b) (fun v => some (v, h)))))) := rfl
theorem act_un {o : UnOp} {x : Opd} : act cl s h (.un o x) = bnd (opd s x) (fun v => onW v (fun v => bnd (unW o v) (fun v => some (v, h)))) := rfl
theorem act_pick {x y z : Opd} : act cl s h (.pick x y z) = bnd (opd s x) (fun c => onBool c (aMv s h y) (aMv s h z)) := rfl
theorem aMv_eq {x : Opd} : aMv s h x = bnd (opd s x) (fun v => some (v, h)) := rfl
theorem act_call {f : Opd} {xs : List Opd} : act cl s h (.call f xs) = bnd (opd s f) (fun f => bnd (opds s xs) (fun vs => cl f vs h)) := rfl
theorem act_box {T : Nat} {x : Opd} : act cl s h (.box T x) = bnd (opd s x) (fun v => onCells v (fun cs => h.new (.row true T cs) (fun b h => some (.w (.ptr b 0), h)))) := rfl
theorem act_fad {off : Nat} {x : Opd} : act cl s h (.fad off x) = bnd (opd s x) (fun v => onPtr v (fun b o => some (.w (.ptr b (o + off)), h))) := by
  show aFad s h off x = _
  simp only [aFad, natK_eq]; rfl
theorem act_ld {n : Option Nat} {x : Opd} : act cl s h (.ld n x) = bnd (opd s x) (fun v => onPtr v (fun b o => atRow h b (fun _ _ cs => bnd (cellN n (dropX o cs)) (fun v => some (v, h))))) := rfl
theorem onW_w {x : W} {f : W → Option β} : onW (.w x) f = f x := rfl
theorem onPtr_p {b : P} {o : Nat} {f : P → Nat → Option β} : onPtr (.w (.ptr b o)) f = f b o := rfl
theorem onCells_w {x : W} {f : List W → Option β} : onCells (.w x) f = f [x] := rfl
theorem onCells_a {x : List W} {f : List W → Option β} : onCells (.a x) f = f x := rfl
theorem onBool_b {b : Bool} {x y : Option β} : onBool (.w (.bool b)) x y = bif b then x else y := by cases b <;> rfl
theorem atRow_at {b : P} {own : Bool} {T : Nat} {cs : List W} {f : Bool → Nat → List W → Option β} (hb : h.tr.get b = some (.row own T cs)) : atRow h b f = f own T cs := by
  show bnd (h.tr.get b) _ = _
  rw [hb]; rfl
theorem cell_none {x : W} {cs : List W} : cellN none (x :: cs) = some (.w x) := rfl
theorem cell_some {n : Nat} {cs : List W} : cellN (some n) cs = bnd (takeX n cs) (fun l => some (.a l)) := rfl
theorem bop_add {k : IntKind} {a b : Int} : bopW .add (.int k a) (.int k b) = some (.w (.int k (k.wrap (a + b)))) := by simp [bopW, wInt, bopI, isSh, iop, iInt]
theorem bop_sub {k : IntKind} {a b : Int} : bopW .sub (.int k a) (.int k b) = some (.w (.int k (k.wrap (a - b)))) := by simp [bopW, wInt, bopI, isSh, iop, iInt]
theorem bop_mul {k : IntKind} {a b : Int} : bopW .mul (.int k a) (.int k b) = some (.w (.int k (k.wrap (a * b)))) := by simp [bopW, wInt, bopI, isSh, iop, iInt]
theorem bop_rem2 {k : IntKind} {a : Int} : bopW .rem (.int k a) (.int k 2) = some (.w (.int k (a.tmod 2))) := by simp [bopW, wInt, bopI, isSh, iop, iInt]
theorem bop_eql {k : IntKind} {a b : Int} : bopW .eql (.int k a) (.int k b) = some (.w (.bool (decide (a = b)))) := by simp [bopW, wInt, bopI, isSh, iop, iBool]
theorem bop_neq {k : IntKind} {a b : Int} : bopW .neq (.int k a) (.int k b) = some (.w (.bool (!(decide (a = b))))) := by simp [bopW, wInt, bopI, isSh, iop, iBool]
theorem bop_lss {k : IntKind} {a b : Int} : bopW .lss (.int k a) (.int k b) = some (.w (.bool (decide (a < b)))) := by simp [bopW, wInt, bopI, isSh, iop, iBool]
theorem bop_leq {k : IntKind} {a b : Int} : bopW .leq (.int k a) (.int k b) = some (.w (.bool (decide (a ≤ b)))) := by simp [bopW, wInt, bopI, isSh, iop, iBool]
theorem bop_gtr {k : IntKind} {a b : Int} : bopW .gtr (.int k a) (.int k b) = some (.w (.bool (decide (b < a)))) := by simp [bopW, wInt, bopI, isSh, iop, iBool]
theorem bop_geq {k : IntKind} {a b : Int} : bopW .geq (.int k a) (.int k b) = some (.w (.bool (decide (b ≤ a)))) := by simp [bopW, wInt, bopI, isSh, iop, iBool]
theorem un_not {b : Bool} : unW .not (.bool b) = some (.w (.bool (!b))) := by simp [unW, iBool]
theorem cond_some {c : Bool} {s t : S} {h : H} : (bif c then some (s, h) else some (t, h)) = some (bif c then s else t, h) := by cases c <;> rfl
theorem cond_someV {c : Bool} {s t : V} {h : H} : (bif c then some (s, h) else some (t, h)) = some (bif c then s else t, h) := by cases c <;> rfl
theorem cond_n {c : Bool} {l r l' r' : S} {w w' : Option V} : (bif c then Tr.n l w r else Tr.n l' w' r') = .n (bif c then l else l') (bif c then w else w') (bif c then r else r') := by cases c <;> rfl
theorem cond_o {c : Bool} {v u : V} : (bif c then some v else some u) = some (bif c then v else u) := by cases c <;> rfl
theorem cond_bw {c a b : Bool} : (bif c then V.w (.bool a) else V.w (.bool b)) = .w (.bool (bif c then a else b)) := by cases c <;> rfl
theorem cond_ii {c : Bool} {α : Type} {x y z : α} : (bif c then (bif c then x else y) else z) = bif c then x else z := by cases c <;> rfl
theorem cond_nn {c : Bool} {α : Type} {x y z : α} : (bif c then z else (bif c then x else y)) = bif c then z else y := by cases c <;> rfl
/-! code -/
theorem run_ops {n : Nat} {l : List I} : runC cl (n + 1) (.ops l) s h = bnd2 (insL cl l s h) (fun s h => some (.nrm, s, h)) := rfl
theorem run_seq' {n : Nat} {a b : C} : runC cl (n + 1) (.seq a b) s h = bnd3 (runC cl n a s h) (thenC (runC cl n) b) := rfl
theorem run_ret {n : Nat} : runC cl (n + 1) .ret s h = some (.ret, s, h) := rfl
theorem run_skip {n : Nat} : runC cl (n + 1) .skip s h = some (.nrm, s, h) := rfl
theorem run_exit {n id : Nat} : runC cl (n + 1) (.exit id) s h = some (.exit id, s, h) := rfl
theorem run_cond {n : Nat} {c : Opd} {a b : C} : runC cl (n + 1) (.cond c a b) s h = bnd (opd s c) (fun v => onBool v (runC cl n a s h) (runC cl n b s h)) := rfl
theorem callFn_mk {r : RunC} {res : List (P × Option (Option Nat))} {body : C} {args : List V} : callFn r ⟨res, body⟩ args h = bnd (mkS args .h .e) (fun s => bnd3 (r body s h) (fun x s h => okX x (bnd (resL s h res) (fun vs => tupR vs h)))) := rfl
theorem mkS_nil {p : P} : mkS [] p s = some s := rfl
theorem mkS_cons {v : V} {vs : List V} {p : P} : mkS (v :: vs) p s = mkS vs p.next (Tr.put (some v) p s) := by
  show bnd (s.set (some v) p) (fun s => nextK p (fun i => mkS vs i s)) = _
  rw [Tr.set_eq, bnd_some, nextK_eq]
theorem okX_nrm {r : R} : okX .nrm r = r := rfl
theorem okX_ret {r : R} : okX .ret r = r := rfl
theorem resL_nil : resL s h [] = some [] := rfl
theorem resL_cons {p : P} {k : Option (Option Nat)} {l : List (P × Option (Option Nat))} : resL s h ((p, k) :: l) = bnd (res1 s h p k) (fun v => onU v (fun v => bnd (resL s h l) (fun vs => some (v :: vs)))) := rfl
theorem res1_none {p : P} : res1 s h p none = s.get p := rfl
theorem res1_some {p : P} {n : Option Nat} : res1 s h p (some n) = bnd2 (aLd s h n (.t p)) (fun v _ => some v) := rfl
theorem onU_w {x : W} {f : U → Option β} : onU (.w x) f = f (.w x) := rfl
theorem onU_a {x : List W} {f : U → Option β} : onU (.a x) f = f (.a x) := rfl
theorem tupR_w {x : W} : tupR [.w x] h = some (.w x, h) := rfl
theorem tupR_a {x : List W} : tupR [.a x] h = some (.a x, h) := rfl
theorem tupR_0 : tupR [] h = some (.t [], h) := rfl
theorem tupR_2 {u u' : U} {l : List U} : tupR (u :: u' :: l) h = some (.t (u :: u' :: l), h) := rfl
theorem P.next_h : P.h.next = .l .h := rfl
theorem P.next_l {p : P} : (P.l p).next = .r p := rfl
theorem P.next_r {p : P} : (P.r p).next = .l p.next := rfl
theorem bnd3_some {x : X} {f : X → S → H → Option β} : bnd3 (some (x, s, h)) f = f x s h := rfl
theorem then_nrm {r : RunC} {b : C} : thenC r b .nrm s h = r b s h := rfl
theorem then_ret {r : RunC} {b : C} : thenC r b .ret s h = some (.ret, s, h) := rfl
theorem then_exit {r : RunC} {b : C} {id : Nat} : thenC r b (.exit id) s h = some (.exit id, s, h) := rfl
end
end Go.Am
namespace Go.Am
set_option autoImplicit false
set_option linter.unusedSimpArgs false
set_option linter.unusedVariables false

/-- the print of an operation that calls no function -/
def okB (p : Program) (op : Op) (b : B) : Bool :=
  match b with
  | .eqb neq x1 x2 => (match op with | .binOp op t y z _ => (match op, neq with | .neq, true => true | .eql, false => true | _, _ => false) && isBoolT p t && okO y x1 && okO z x2 | _ => false)
  | .eqs ks neq x1 x2 => (match op with | .binOp op t y z _ => (match op, neq with | .neq, true => true | .eql, false => true | _, _ => false) && okFlat p t ks && !p.eqGuardType p.depth t && okO y x1 && okO z x2 | _ => false)
  | .eqn k neq x1 x2 => (match op with | .binOp op t y z _ => (match op, neq with | .neq, true => true | .eql, false => true | _, _ => false) && decide (nilKind p t = some k) && okO y x1 && okO z x2 | _ => false)
  | .cvi k x => (match op with | .convert t u y => okCvi p t u k && okO y x | _ => false)
  | .mkf g ys xs => (match op with | .makeFunc (.func f) first caps => Nat.beq g.nat f && okOL first.toList ys && okOL caps.toList xs | _ => false)
  | .mkm => (match op with | .makeMap t r => okMkm p t r | _ => false)
  | .mks T z bytes zc x1 x2 => (match op with | .makeSlice t y1 y2 => elemIs p t T && okO y1 x1 && okO y2 x2 && okMks p t z bytes zc | _ => false)
  | .fld off n x => (match op with | .field t y f => okO y x && okFld p t f off n | _ => false)
  | .idv len z n x1 x2 => (match op with | .index t y i => okO y x1 && okO i x2 && okIdv p t len z n | _ => false)
  | .ids x1 x2 => (match op with | .index t y i => okO y x1 && okO i x2 && isStrT p t | _ => false)
  | .iada len z x1 x2 => (match op with | .indexAddr t y i => okO y x1 && okO i x2 && okIada p t len z | _ => false)
  | .lkp q zero ok x1 x2 => (match op with | .lookup t y i ok' => (ok == ok') && okO y x1 && okO i x2 && okMap p t q (some zero) | _ => false)
  | .mup q x1 x2 x3 => (match op with
    | .mapUpdate t y i z => okO y x1 && okO i x2 && okO z x3 && okMap p t q none
    | .insert t y i z => okO y x1 && okO i x2 && okO z x3 && okMap p t q none
    | _ => false)
  | .men q zero x1 x2 => (match op with | .mapEntry t y i => okO y x1 && okO i x2 && okMap p t q (some zero) | _ => false)
  | .est x1 x2 x3 => (match op with | .entryStore t y i z => okO y x1 && okO i x2 && okO z x3 | _ => false)
  | .del q x1 x2 => (match op with | .call ⟨.builtin .delete, ⟨[y, i]⟩, ⟨[t, _]⟩⟩ => okO y x1 && okO i x2 && okMap p t q none | _ => false)
  | .cpy z x1 x2 => (match op with | .call ⟨.builtin .copy, ⟨[y, i]⟩, ⟨[t, _]⟩⟩ => okO y x1 && okO i x2 && okIad p t z | _ => false)
  | .clr z zc x => (match op with | .call ⟨.builtin .clear, ⟨[y]⟩, ⟨[t]⟩⟩ => okO y x && okClr p t z zc | _ => false)
  | .mnx mx xs => (match op with | .call ⟨.builtin b, ⟨ys⟩, _⟩ => (match b, mx with | .max, true => true | .min, false => true | _, _ => false) && okOL ys xs | _ => false)
  | .mln mp x => (match op with | .call ⟨.builtin .len, ⟨[y]⟩, ⟨[t]⟩⟩ => okO y x && okMln p t mp | _ => false)
  | .slc z x lo hi mx => (match op with | .slice t y ylo yhi ymx => okO y x && okOO ylo lo && okOO yhi hi && okOO ymx mx && okIad p t z | _ => false)
  | .sst x lo hi => (match op with | .slice t y ylo yhi none => okO y x && okOO ylo lo && okOO yhi hi && isStrT p t | _ => false)
  | .eqp neq x1 x2 => (match op with | .binOp op t y z _ => (match op, neq with | .neq, true => true | .eql, false => true | _, _ => false) && okPtrT p t && okO y x1 && okO z x2 | _ => false)
  | .sla n z x => (match op with | .slice t y none none none => okO y x && okSla p t n z | _ => false)
  | .b2s x => (match op with | .convert t u y => okO y x && okB2s p t u | _ => false)
  | .cvu x => (match op with | .convert t u y => okO y x && okCvu p t u | _ => false)
  | .cvp u n x => (match op with | .convert t u' y => okO y x && okCvp p t u' u n | _ => false)
  | .nes x => (match op with | .call ⟨.value (.func f), ⟨[y]⟩, _⟩ => okO y x && okNes p f | _ => false)
  | .usd x => (match op with | .call ⟨.builtin .unsafeSliceData, ⟨[y]⟩, _⟩ => okO y x | _ => false)
  | .ust e x1 x2 => (match op with | .call ⟨.builtin .unsafeString, ⟨[y1, y2]⟩, ⟨[t, _]⟩⟩ => okO y1 x1 && okO y2 x2 && okUst p t e | _ => false)
  | .lki q k x1 x2 => (match op with | .lookup t y i false => okO y x1 && okO i x2 && okMap p t q (some (.w (.int k 0))) | _ => false)
def okA (p : Program) (op : Op) (a : A) : Bool :=
  match a with
  | .mv x => (match op with | .move y => okO y x | .assign y => okO y x | _ => false)
  | .ld n x => (match op with | .load t y => okO y x && okN p t n | _ => false)
  | .fad off x => (match op with | .fieldAddr t y f => okO y x && okFad p t f off | _ => false)
  | .call _ _ => false
  | .iad z x1 x2 => (match op with | .indexAddr t y i => okO y x1 && okO i x2 && okIad p t z | _ => false)
  | .st n x1 x2 => (match op with | .store t y z => okO y x1 && okO z x2 && sizeIs p t n | _ => false)
  | .len x => (match op with | .call ⟨.builtin .len, ⟨[y]⟩, ⟨[t]⟩⟩ => okO y x && lenTy p t | _ => false)
  | .pick x1 x2 x3 => (match op with | .pick c y z => okO c x1 && okO y x2 && okO z x3 | _ => false)
  | .bin bo x1 x2 => (match op with | .binOp bo' t y z _ => decide (bo = bo') && okO y x1 && okO z x2 | _ => false)
  | .un uo x => (match op with | .unOp uo' _ y => decide (uo = uo') && okO y x | _ => false)
  | .box T x => (match op with
    | .box t y => Nat.beq T (2 * t + 1) && okO y x
    | .alloc t => Nat.beq T (2 * t + 1) && (match x with | .c z => zeroIs p t z | _ => false)
    | _ => false)
  | .bld z ps => (match op with | .build t ys => okBld p t ys.toList z ps | _ => false)
  | .bsl T z len zc ps => (match op with | .buildSlice t len' ys => elemIs p t T && okBsl p t len' ys.toList z len zc ps | _ => false)
  | .ext x i => (match op with | .extract y j => Nat.beq i j && okO y x | _ => false)
  | .app T z bytes x1 x2 => (match op with | .call ⟨.builtin .append, ⟨[y1, y2]⟩, ⟨[t, u]⟩⟩ => elemIs p t T && okO y1 x1 && okO y2 x2 && okApp p t u z bytes && Nat.blt 0 bytes | _ => false)
  | .nck x => (match op with | .nilCheck y => okO y x | _ => false)
  | .o b => okB p op b

section
variable {cr : CR} {B0 : Nat} {φ : Phi} {h h' : H} {w : World} {p : Program} {o : Oper} {s : S} {a : Act} {v : V}
theorem op_b {b : B} (hk : okB p o.op b = true) (hs : RelS φ s a.tmps) (sim : Sim cr B0 φ h w) (hx : actB s h b = some (v, h')) : Exec p a.eval o w (Res cr B0 φ h w v h') := by
  cases b
  case eqb =>
    simp only [okB] at hk
    split at hk
    · rename_i e
      try simp only [Bool.and_eq_true, Bool.not_eq_true', decide_eq_true_eq] at hk
      obtain ⟨⟨⟨h1, h2⟩, h3⟩, h4⟩ := hk
      split at h1 <;> first | (cases h1; done) | exact op_eqb e rfl h2 h3 h4 hs sim hx
    · cases hk
  case eqs =>
    simp only [okB] at hk
    split at hk
    · rename_i e
      try simp only [Bool.and_eq_true, Bool.not_eq_true', decide_eq_true_eq] at hk
      obtain ⟨⟨⟨⟨h1, h2⟩, h3⟩, h4⟩, h5⟩ := hk
      split at h1 <;> first | (cases h1; done) | exact op_eqs e rfl h2 h3 h4 h5 hs sim hx
    · cases hk
  case eqn =>
    simp only [okB] at hk
    split at hk
    · rename_i e
      try simp only [Bool.and_eq_true, Bool.not_eq_true', decide_eq_true_eq] at hk
      obtain ⟨⟨⟨h1, h2⟩, h3⟩, h4⟩ := hk
      split at h1 <;> first | (cases h1; done) | exact op_eqn e rfl h2 h3 h4 hs sim hx
    · cases hk
  case cvi =>
    simp only [okB] at hk
    split at hk
    · rename_i e
      try simp only [Bool.and_eq_true, Bool.not_eq_true', decide_eq_true_eq] at hk
      exact op_cvi e hk.1 hk.2 hs sim hx
    · cases hk
  case mkf =>
    simp only [okB] at hk
    split at hk
    · rename_i e
      try simp only [Bool.and_eq_true, Bool.not_eq_true', decide_eq_true_eq] at hk
      obtain ⟨⟨h1, h2⟩, h3⟩ := hk
      rw [Nat.beq_eq] at h1
      exact op_mkf e h1 h2 h3 hs sim hx
    · cases hk
  case mkm =>
    simp only [okB] at hk
    split at hk
    · rename_i e
      try simp only [Bool.and_eq_true, Bool.not_eq_true', decide_eq_true_eq] at hk
      exact op_mkm e hk sim hx
    · cases hk
  case mks =>
    simp only [okB] at hk
    split at hk
    · rename_i e
      try simp only [Bool.and_eq_true, Bool.not_eq_true', decide_eq_true_eq] at hk
      exact op_mks e hk.1.1.1 hk.1.1.2 hk.1.2 hk.2 hs sim hx
    · cases hk
  case fld =>
    simp only [okB] at hk
    split at hk
    · rename_i e
      try simp only [Bool.and_eq_true, Bool.not_eq_true', decide_eq_true_eq] at hk
      exact op_fld e hk.1 hk.2 hs sim hx
    · cases hk
  case idv =>
    simp only [okB] at hk
    split at hk
    · rename_i e
      try simp only [Bool.and_eq_true, Bool.not_eq_true', decide_eq_true_eq] at hk
      exact op_idv e hk.1.1 hk.1.2 hk.2 hs sim hx
    · cases hk
  case ids =>
    simp only [okB] at hk
    split at hk
    · rename_i e
      try simp only [Bool.and_eq_true, Bool.not_eq_true', decide_eq_true_eq] at hk
      exact op_ids e hk.1.1 hk.1.2 hk.2 hs sim hx
    · cases hk
  case iada =>
    simp only [okB] at hk
    split at hk
    · rename_i e
      try simp only [Bool.and_eq_true, Bool.not_eq_true', decide_eq_true_eq] at hk
      exact op_iada e hk.1.1 hk.1.2 hk.2 hs sim hx
    · cases hk
  case lkp =>
    simp only [okB] at hk
    split at hk
    · rename_i e
      try simp only [Bool.and_eq_true, Bool.not_eq_true', decide_eq_true_eq] at hk
      obtain ⟨⟨⟨h1, h2⟩, h3⟩, h4⟩ := hk
      have h1 := eq_of_beq h1
      subst h1
      exact op_lkp e h2 h3 h4 hs sim hx
    · cases hk
  case mup =>
    simp only [okB] at hk
    split at hk
    · rename_i e
      try simp only [Bool.and_eq_true, Bool.not_eq_true', decide_eq_true_eq] at hk
      exact op_mup (.inl e) hk.1.1.1 hk.1.1.2 hk.1.2 hk.2 hs sim hx
    · rename_i e
      try simp only [Bool.and_eq_true, Bool.not_eq_true', decide_eq_true_eq] at hk
      exact op_mup (.inr e) hk.1.1.1 hk.1.1.2 hk.1.2 hk.2 hs sim hx
    · cases hk
  case men =>
    simp only [okB] at hk
    split at hk
    · rename_i e
      try simp only [Bool.and_eq_true, Bool.not_eq_true', decide_eq_true_eq] at hk
      exact op_men e hk.1.1 hk.1.2 hk.2 hs sim hx
    · cases hk
  case est =>
    simp only [okB] at hk
    split at hk
    · rename_i e
      try simp only [Bool.and_eq_true, Bool.not_eq_true', decide_eq_true_eq] at hk
      exact op_est e hk.1.1 hk.1.2 hk.2 hs sim hx
    · cases hk
  case del =>
    simp only [okB] at hk
    split at hk
    · rename_i e
      try simp only [Bool.and_eq_true, Bool.not_eq_true', decide_eq_true_eq] at hk
      exact op_del e hk.1.1 hk.1.2 hk.2 hs sim hx
    · cases hk
  case cpy =>
    simp only [okB] at hk
    split at hk
    · rename_i e
      try simp only [Bool.and_eq_true, Bool.not_eq_true', decide_eq_true_eq] at hk
      exact op_cpy e hk.1.1 hk.1.2 hk.2 hs sim hx
    · cases hk
  case clr =>
    simp only [okB] at hk
    split at hk
    · rename_i e
      try simp only [Bool.and_eq_true, Bool.not_eq_true', decide_eq_true_eq] at hk
      exact op_clr e hk.1 hk.2 hs sim hx
    · cases hk
  case mnx =>
    simp only [okB] at hk
    split at hk
    · rename_i e
      try simp only [Bool.and_eq_true, Bool.not_eq_true', decide_eq_true_eq] at hk
      obtain ⟨h1, h2⟩ := hk
      split at h1 <;> first | (cases h1; done) | exact op_mnx e rfl h2 hs sim hx
    · cases hk
  case mln =>
    simp only [okB] at hk
    split at hk
    · rename_i e
      try simp only [Bool.and_eq_true, Bool.not_eq_true', decide_eq_true_eq] at hk
      exact op_mln (ts := #[]) e hk.1 hk.2 hs sim hx
    · cases hk
  case slc =>
    simp only [okB] at hk
    split at hk
    · rename_i e
      try simp only [Bool.and_eq_true, Bool.not_eq_true', decide_eq_true_eq] at hk
      exact op_slc e hk.1.1.1.1 hk.1.1.1.2 hk.1.1.2 hk.1.2 hk.2 hs sim hx
    · cases hk
  case sst =>
    simp only [okB] at hk
    split at hk
    · rename_i e
      try simp only [Bool.and_eq_true, Bool.not_eq_true', decide_eq_true_eq] at hk
      exact op_sst e hk.1.1.1 hk.1.1.2 hk.1.2 hk.2 hs sim hx
    · cases hk
  case eqp =>
    simp only [okB] at hk
    split at hk
    · rename_i e
      try simp only [Bool.and_eq_true, Bool.not_eq_true', decide_eq_true_eq] at hk
      obtain ⟨⟨⟨h1, h2⟩, h3⟩, h4⟩ := hk
      split at h1 <;> first | (cases h1; done) | exact op_eqp e rfl h2 h3 h4 hs sim hx
    · cases hk
  case sla =>
    simp only [okB] at hk
    split at hk
    · rename_i e
      simp only [Bool.and_eq_true] at hk
      exact op_sla e hk.1 hk.2 hs sim hx
    · cases hk
  case b2s =>
    simp only [okB] at hk
    split at hk
    · rename_i e
      simp only [Bool.and_eq_true] at hk
      exact op_b2s e hk.1 hk.2 hs sim hx
    · cases hk
  case cvu =>
    simp only [okB] at hk
    split at hk
    · rename_i e
      simp only [Bool.and_eq_true] at hk
      exact op_cvu e hk.1 hk.2 hs sim hx
    · cases hk
  case cvp =>
    simp only [okB] at hk
    split at hk
    · rename_i e
      simp only [Bool.and_eq_true] at hk
      exact op_cvp e hk.1 hk.2 hs sim hx
    · cases hk
  case nes =>
    simp only [okB] at hk
    split at hk
    · rename_i e
      simp only [Bool.and_eq_true] at hk
      exact op_nes e hk.1 hk.2 hs sim hx
    · cases hk
  case usd =>
    simp only [okB] at hk
    split at hk
    · rename_i e
      exact op_usd e hk hs sim hx
    · cases hk
  case ust =>
    simp only [okB] at hk
    split at hk
    · rename_i e
      simp only [Bool.and_eq_true] at hk
      exact op_ust e hk.1.1 hk.1.2 hk.2 hs sim hx
    · cases hk
  case lki =>
    simp only [okB] at hk
    split at hk
    · rename_i e
      simp only [Bool.and_eq_true] at hk
      exact op_lki e hk.1.1 hk.1.2 hk.2 hs sim hx
    · cases hk
theorem op_a {x : A} {cl : Call} (hk : okA p o.op x = true) (hs : RelS φ s a.tmps) (sim : Sim cr B0 φ h w) (hx : act cl s h x = some (v, h')) : Exec p a.eval o w (Res cr B0 φ h w v h') := by
  cases x
  case o b => exact op_b hk hs sim hx
  case call => cases hk
  case mv =>
    simp only [okA] at hk
    split at hk
    · rename_i e
      try simp only [Bool.and_eq_true, Bool.not_eq_true', decide_eq_true_eq] at hk
      exact op_mv (.inl e) hk hs sim hx
    · rename_i e
      try simp only [Bool.and_eq_true, Bool.not_eq_true', decide_eq_true_eq] at hk
      exact op_mv (.inr e) hk hs sim hx
    · cases hk
  case ld =>
    simp only [okA] at hk
    split at hk
    · rename_i e
      try simp only [Bool.and_eq_true, Bool.not_eq_true', decide_eq_true_eq] at hk
      exact op_ld e hk.1 hk.2 hs sim hx
    · cases hk
  case fad =>
    simp only [okA] at hk
    split at hk
    · rename_i e
      try simp only [Bool.and_eq_true, Bool.not_eq_true', decide_eq_true_eq] at hk
      exact op_fad e hk.1 hk.2 hs sim hx
    · cases hk
  case iad =>
    simp only [okA] at hk
    split at hk
    · rename_i e
      try simp only [Bool.and_eq_true, Bool.not_eq_true', decide_eq_true_eq] at hk
      exact op_iad e hk.1.1 hk.1.2 hk.2 hs sim hx
    · cases hk
  case st =>
    simp only [okA] at hk
    split at hk
    · rename_i e
      try simp only [Bool.and_eq_true, Bool.not_eq_true', decide_eq_true_eq] at hk
      exact op_st e hk.1.1 hk.1.2 hk.2 hs sim hx
    · cases hk
  case len =>
    simp only [okA] at hk
    split at hk
    · rename_i e
      try simp only [Bool.and_eq_true, Bool.not_eq_true', decide_eq_true_eq] at hk
      exact op_len e hk.1 hk.2 hs sim hx
    · cases hk
  case pick =>
    simp only [okA] at hk
    split at hk
    · rename_i e
      try simp only [Bool.and_eq_true, Bool.not_eq_true', decide_eq_true_eq] at hk
      exact op_pick e hk.1.1 hk.1.2 hk.2 hs sim hx
    · cases hk
  case bin =>
    simp only [okA] at hk
    split at hk
    · rename_i e
      try simp only [Bool.and_eq_true, Bool.not_eq_true', decide_eq_true_eq] at hk
      obtain ⟨⟨rfl, h2⟩, h3⟩ := hk
      exact op_bin e h2 h3 hs sim hx
    · cases hk
  case un =>
    simp only [okA] at hk
    split at hk
    · rename_i e
      try simp only [Bool.and_eq_true, Bool.not_eq_true', decide_eq_true_eq] at hk
      obtain ⟨rfl, h2⟩ := hk
      exact op_un e h2 hs sim hx
    · cases hk
  case box =>
    simp only [okA] at hk
    split at hk
    · rename_i e
      try simp only [Bool.and_eq_true, Bool.not_eq_true', decide_eq_true_eq] at hk
      exact op_box e (by simpa using hk.1) hk.2 hs sim hx
    · rename_i e
      try simp only [Bool.and_eq_true, Bool.not_eq_true', decide_eq_true_eq] at hk
      obtain ⟨hT, hk⟩ := hk
      split at hk
      · exact op_alloc e (by simpa using hT) hk sim hx
      · cases hk
    · cases hk
  case bld =>
    simp only [okA] at hk
    split at hk
    · rename_i e
      try simp only [Bool.and_eq_true, Bool.not_eq_true', decide_eq_true_eq] at hk
      exact op_bld e hk hs sim hx
    · cases hk
  case bsl =>
    simp only [okA] at hk
    split at hk
    · rename_i e
      try simp only [Bool.and_eq_true, Bool.not_eq_true', decide_eq_true_eq] at hk
      exact op_bsl e hk.1 hk.2 hs sim hx
    · cases hk
  case ext =>
    simp only [okA] at hk
    split at hk
    · rename_i e
      try simp only [Bool.and_eq_true, Bool.not_eq_true', decide_eq_true_eq] at hk
      obtain ⟨h1, h2⟩ := hk
      rw [Nat.beq_eq] at h1
      subst h1
      exact op_ext e h2 hs sim hx
    · cases hk
  case app =>
    simp only [okA] at hk
    split at hk
    · rename_i e
      try simp only [Bool.and_eq_true, Bool.not_eq_true', decide_eq_true_eq] at hk
      obtain ⟨⟨⟨⟨h0, h1⟩, h2⟩, h3⟩, h4⟩ := hk
      exact op_app e h0 h1 h2 h3 (by simpa [Nat.blt_eq] using h4) hs sim hx
    · cases hk
  case nck =>
    simp only [okA] at hk
    split at hk
    · rename_i e
      try simp only [Bool.and_eq_true, Bool.not_eq_true', decide_eq_true_eq] at hk
      exact op_nck e hk hs sim hx
    · cases hk
end
end Go.Am
