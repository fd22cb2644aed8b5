import Derived.Test.YtlkhoeghlihdlaaGreatAmSim
import Derived.Laws.StructEq
import Derived.Laws.Concat
import Derived.Laws.Small
import Derived.DeepKeys5
import Derived.Laws.NewFold
namespace Go.Am
set_option autoImplicit false
set_option linter.unusedSimpArgs false
set_option linter.unusedVariables false
section
variable {cr : CR} {B0 : Nat} {φ : Phi} {h h' : H} {w : World} {p : Program} {o : Oper} {s : S} {a : Act} {v : V}

theorem iop_run {op : BinOp} {k : IntKind} {m n : Int} (hx : iop op k m n = some v) (ht : isSh op = false) (t : TypeId) : ∃ v', (binOp op t (.int k m) (.int k n)).run p w = .ok v' w ∧ ∀ φ, RelV φ v v' := by
  cases op <;> simp only [iop, iInt_eq, iBool_eq, Option.some.injEq, reduceCtorEq] at hx <;> try (cases ht; done)
  case quo =>
    obtain ⟨hb, hx⟩ := guardB_eq.1 hx
    cases hx
    simp at hb
    exact ⟨_, by simp [binOp, Op.intDiv, hb], fun φ => rfl⟩
  case rem =>
    obtain ⟨hb, hx⟩ := guardB_eq.1 hx
    cases hx
    simp at hb
    exact ⟨_, by simp [binOp, Op.intDiv, hb], fun φ => rfl⟩
  all_goals first
    | (subst hx; exact ⟨_, by simp [binOp, Op.intArith, Op.intBits, Op.intCmp]; rfl, fun φ => by simp [RelV, RelW, BEq.beq, bne]⟩)
    | (subst hx; exact ⟨_, by simp [binOp, Op.intArith, Op.intBits, Op.intCmp]; rfl, fun φ => rfl⟩)
theorem shf_run {op : BinOp} {k j : IntKind} {m n : Int} (hx : shf op k m n = some v) (t : TypeId) : ∃ v', (binOp op t (.int k m) (.int j n)).run p w = .ok v' w ∧ ∀ φ, RelV φ v v' := by
  cases op <;> simp only [shf, reduceCtorEq] at hx
  case shl =>
    obtain ⟨hb, hx⟩ := guardB_eq.1 hx
    rw [iInt_eq] at hx
    cases hx
    have hb : ¬ n < 0 := by simpa using hb
    exact ⟨_, by simp [binOp, Op.shift, hb], fun φ => rfl⟩
  case shr =>
    obtain ⟨hb, hx⟩ := guardB_eq.1 hx
    rw [iInt_eq] at hx
    cases hx
    have hb : ¬ n < 0 := by simpa using hb
    exact ⟨_, by simp [binOp, Op.shift, hb], fun φ => rfl⟩
def isBoolT (p : Program) (t : TypeId) : Bool := match p.underlying t with | some .bool => true | _ => false
theorem isBoolT_eq {t : TypeId} (ht : isBoolT p t = true) : p.underlying t = some .bool := by
  unfold isBoolT at ht; split at ht
  · assumption
  · cases ht
theorem bopS_run {op : BinOp} {t : TypeId} {b c : List UInt8} (hx : bopS op b c = some v) : ∃ v', (binOp op t (.string ⟨b.toArray⟩) (.string ⟨c.toArray⟩)).run p w = .ok v' w ∧ ∀ φ, RelV φ v v' := by
  have e1 : ∀ l : List UInt8, ByteArray.toList ⟨l.toArray⟩ = l := fun l => by simp
  cases op <;> simp only [bopS, iBool_eq, Option.some.injEq, reduceCtorEq] at hx
  · obtain ⟨hb, hx⟩ := guardB_eq.1 hx
    rw [appX_eq] at hx
    cases hx
    have hb : b.length + c.length ≤ 9223372036854775807 := by simpa using hb
    have e2 : (⟨b.toArray⟩ ++ ⟨c.toArray⟩ : ByteArray) = ⟨(b ++ c).toArray⟩ := by
      apply ByteArray.ext
      apply Array.ext'
      simp
    refine ⟨.string (⟨b.toArray⟩ ++ ⟨c.toArray⟩), ?_, fun φ => by rw [e2]; rfl⟩
    exact run_string_add_sum (P := p) w _ _ (by simpa [ByteArray.size] using hb)
  · subst hx; exact ⟨_, by simp [binOp, Op.stringOp, e1]; rfl, fun φ => by simp [RelV, RelW, Bool.beq_eq_decide_eq]⟩
  · subst hx; exact ⟨_, by simp [binOp, Op.stringOp, e1]; rfl, fun φ => by simp [RelV, RelW, Bool.beq_eq_decide_eq]⟩
theorem op_bin {op : BinOp} {t u : TypeId} {y z : Operand} {x1 x2 : Opd} (ho : o.op = .binOp op t y z u) (hy : okO y x1 = true) (hz : okO z x2 = true) (hs : RelS φ s a.tmps) (sim : Sim cr B0 φ h w)
    (hx : aBin s h op x1 x2 = some (v, h')) : Exec p a.eval o w (Res cr B0 φ h w v h') := by
  obtain ⟨v1, h1, h2⟩ := bnd_eq.1 hx
  obtain ⟨m, rfl, h3⟩ := onW_eq.1 h2
  obtain ⟨v2, h4, h5⟩ := bnd_eq.1 h3
  obtain ⟨n, rfl, h6⟩ := onW_eq.1 h5
  obtain ⟨v3, h7, h8⟩ := bnd_eq.1 h6
  cases h8
  have r1 := okO_rel hs hy h1
  have r2 := okO_rel hs hz h4
  have key : ∃ v', (eqGuard op t y z (a.eval y) (a.eval z)).run p w = .ok () w ∧ (binOp op t (a.eval y) (a.eval z)).run p w = .ok v' w ∧ RelV φ v v' := by
    cases m <;> simp only [bopW, reduceCtorEq] at h7
    case int k m =>
      cases n <;> simp only [wInt, reduceCtorEq] at h7
      rename_i j n
      have e1 : a.eval y = .int k m := r1
      have e2 : a.eval z = .int j n := r2
      rw [e1, e2]
      have eg : (eqGuard op t y z (.int k m) (.int j n)).run p w = .ok () w := by unfold eqGuard; cases op <;> simp
      unfold bopI at h7
      cases hsh : isSh op with
      | true => rw [hsh] at h7; obtain ⟨v', q1, q2⟩ := shf_run (p := p) (w := w) (show shf op k m n = some v from h7) t; exact ⟨v', eg, q1, q2 φ⟩
      | false =>
        rw [hsh] at h7
        obtain ⟨q0, h9⟩ := guardB_eq.1 (show guardB (decide (k = j)) (iop op k m n) = some v from h7)
        have q0 : k = j := by simpa using q0
        subst q0
        obtain ⟨v', q1, q2⟩ := iop_run (p := p) (w := w) h9 hsh t; exact ⟨v', eg, q1, q2 φ⟩
    case str b =>
      cases n <;> simp only [reduceCtorEq] at h7
      rename_i c
      have e1 : a.eval y = .string ⟨b.toArray⟩ := r1
      have e2 : a.eval z = .string ⟨c.toArray⟩ := r2
      rw [e1, e2]
      have eg : (eqGuard op t y z (.string ⟨b.toArray⟩) (.string ⟨c.toArray⟩)).run p w = .ok () w := by unfold eqGuard; cases op <;> simp
      obtain ⟨v', q1, q2⟩ := bopS_run (p := p) (w := w) (t := t) h7; exact ⟨v', eg, q1, q2 φ⟩
  obtain ⟨v', k1, k2, k3⟩ := key
  exact Exec.val (v' := v') (w' := w) (by simp [execOp, ho, k1, k2]) (Res.same sim k3)
theorem onBit_eq {β : Type} {b : β} {v : V} {f : Bool → Option β} : onW v (wBit f) = some b ↔ ∃ c, v = .w (.bool c) ∧ f c = some b := by
  rw [onW_eq]
  constructor
  · rintro ⟨x, rfl, h⟩; cases x <;> first | (cases h; done) | exact ⟨_, rfl, h⟩
  · rintro ⟨p, rfl, h⟩; exact ⟨_, rfl, h⟩
theorem op_eqb {op : BinOp} {neq : Bool} {t u : TypeId} {y z : Operand} {x1 x2 : Opd} (ho : o.op = .binOp op t y z u) (hop : op = bif neq then .neq else .eql) (ht : isBoolT p t = true) (hy : okO y x1 = true) (hz : okO z x2 = true)
    (hs : RelS φ s a.tmps) (sim : Sim cr B0 φ h w) (hx : aEqb s h neq x1 x2 = some (v, h')) : Exec p a.eval o w (Res cr B0 φ h w v h') := by
  obtain ⟨v1, h1, h2⟩ := bnd_eq.1 hx
  obtain ⟨b, rfl, h3⟩ := onBit_eq.1 h2
  obtain ⟨v2, h4, h5⟩ := bnd_eq.1 h3
  obtain ⟨c, rfl, h6⟩ := onBit_eq.1 h5
  rw [boolK_eq] at h6
  cases h6
  have e1 : a.eval y = .bool b := okO_rel hs hy h1
  have e2 : a.eval z = .bool c := okO_rel hs hz h4
  have hu := isBoolT_eq ht
  subst hop
  refine Exec.val (v' := .bool ((b == c) != neq)) (w' := w) ?_ (Res.same sim rfl)
  cases neq
  · simp [execOp, ho, e1, e2, eqGuard, run_eql_bool w t b c hu]
  · have := run_neq_bool w t b c hu
    simp only [execOp, ho, e1, e2, eqGuard, cond_true] at this ⊢
    simp [this]
theorem op_un {op : UnOp} {t : TypeId} {y : Operand} {x : Opd} (ho : o.op = .unOp op t y) (hy : okO y x = true) (hs : RelS φ s a.tmps) (sim : Sim cr B0 φ h w)
    (hx : aUn s h op x = some (v, h')) : Exec p a.eval o w (Res cr B0 φ h w v h') := by
  obtain ⟨v1, h1, h2⟩ := bnd_eq.1 hx
  obtain ⟨m, rfl, h3⟩ := onW_eq.1 h2
  obtain ⟨v3, h7, h8⟩ := bnd_eq.1 h3
  cases h8
  have r1 := okO_rel hs hy h1
  cases op <;> cases m <;> simp only [unW, reduceCtorEq] at h7
  case neg.int k n =>
    rw [iInt_eq] at h7; cases h7
    have e1 : a.eval y = .int k n := r1
    exact Exec.val (v' := .int k (k.wrap (0 - n))) (w' := w) (by simp [execOp, ho, e1, Op.unary, Op.intArith]) (Res.same sim rfl)
  case xor.int k n =>
    simp only [iop, iInt_eq] at h7; cases h7
    have e1 : a.eval y = .int k n := r1
    exact Exec.val (v' := _) (w' := w) (by simp [execOp, ho, e1, Op.unary, Op.intBits]) (Res.same sim rfl)
  case not.bool b =>
    rw [iBool_eq] at h7; cases h7
    have e1 : a.eval y = .bool b := r1
    exact Exec.val (v' := .bool (!b)) (w' := w) (by simp [execOp, ho, e1, Op.unary]) (Res.same sim rfl)
def okCvi (p : Program) (t u : TypeId) (k : IntKind) : Bool := (p.underlying t).isSome && (match p.underlying u with | some (.int j) => decide (j = k) | _ => false)
theorem op_cvi {t u : TypeId} {k : IntKind} {y : Operand} {x : Opd} (ho : o.op = .convert t u y) (hk : okCvi p t u k = true) (hy : okO y x = true) (hs : RelS φ s a.tmps) (sim : Sim cr B0 φ h w)
    (hx : aCvi s h k x = some (v, h')) : Exec p a.eval o w (Res cr B0 φ h w v h') := by
  obtain ⟨v1, h1, h2⟩ := bnd_eq.1 hx
  obtain ⟨j, n, rfl, h3⟩ := onInt_eq.1 h2
  rw [iInt_eq] at h3
  cases h3
  have e1 : a.eval y = .int j n := okO_rel hs hy h1
  simp [okCvi] at hk
  obtain ⟨hk1, hk2⟩ := hk
  split at hk2
  · rename_i j' hj'
    have hk2 : j' = k := by simpa using hk2
    subst hk2
    obtain ⟨d, hd⟩ := Option.isSome_iff_exists.1 hk1
    exact Exec.val (v' := .int j' (j'.wrap n)) (w' := w) (by simp [execOp, ho, e1, convert, run_underlying hd, run_underlying hj', Conv.intToInt]) (Res.same sim rfl)
  · cases hk2
end
end Go.Am
namespace Go.Am
set_option autoImplicit false
set_option linter.unusedSimpArgs false
set_option linter.unusedVariables false

theorem foldl_put (vs : List Value) : ∀ (off k : Nat) (cells : Array Value), off + k + vs.length ≤ cells.size →
    (vs.zipIdx k).foldl (fun cs (x : Value × Nat) => cs.setIfInBounds (off + x.2) x.1) cells = (cells.toList.take (off + k) ++ vs ++ cells.toList.drop (off + k + vs.length)).toArray := by
  induction vs with
  | nil => intro off k cells _; simp
  | cons v vs ih =>
    intro off k cells hl
    simp only [List.length_cons] at hl
    rw [List.zipIdx_cons, List.foldl_cons, ih off (k + 1) _ (by simp; omega)]
    apply Array.ext'
    simp only [Array.toList_setIfInBounds, List.length_cons]
    have hk : off + k < cells.toList.length := by simp; omega
    rw [show off + (k + 1) = off + k + 1 by omega]
    have h1 : (cells.toList.set (off + k) v).take (off + k + 1) = cells.toList.take (off + k) ++ [v] := by
      rw [List.take_succ_eq_append_getElem (by simpa using hk)]
      rw [List.take_set_of_le (by omega)]
      simp
    have h2 : (cells.toList.set (off + k) v).drop (off + k + 1 + vs.length) = cells.toList.drop (off + k + 1 + vs.length) := by
      rw [List.drop_set_of_lt (by omega)]
    rw [h1, h2]
    simp [Nat.add_assoc, Nat.add_comm 1]
section
variable {cr : CR} {B0 : Nat} {φ : Phi} {h h' : H} {w : World} {p : Program} {o : Oper} {s : S} {a : Act} {v : V}

def okParts (place : Nat → Option (Nat × Nat)) : List (Nat × Operand) → List (Nat × Nat × Opd) → Bool
  | [], [] => true
  | (i, y) :: l, (off, n, x) :: m => decide (place i = some (off, n)) && okO y x && okParts place l m
  | _, _ => false
theorem fill_rel {place : Nat → Option (Nat × Nat)} (hs : RelS φ s a.tmps) : ∀ {ys : List (Nat × Operand)} {ps : List (Nat × Nat × Opd)} {cs r : List W} {cells : Array Value}, okParts place ys ps = true → RelL (RelW φ) cs cells.toList →
    fill s ps cs = some r → ∃ arr : Array Value, Instr.fill place cells (ys.map fun (x : Nat × Operand) => (x.1, a.eval x.2)) = some arr ∧ RelL (RelW φ) r arr.toList
  | [], [], cs, r, cells, _, hr, hf => by cases hf; exact ⟨cells, rfl, hr⟩
  | (i, y) :: ys, (off, n, x) :: ps, cs, r, cells, hk, hr, hf => by
    simp [okParts] at hk
    obtain ⟨⟨hp, hy⟩, hk⟩ := hk
    obtain ⟨v, h1, h2⟩ := bnd_eq.1 (show bnd (opd s x) (fun v => onCells v (fun l => guardB (Nat.beq (lenX l) n) (bnd (splice off l cs) (fill s ps)))) = some r from hf)
    obtain ⟨l, h3, h4⟩ := onCells_eq.1 h2
    obtain ⟨h5, h6⟩ := guardB_eq.1 h4
    obtain ⟨cs', h7, h8⟩ := bnd_eq.1 h6
    obtain ⟨h9, rfl⟩ := splice_eq.1 h7
    have hv := (okO_rel hs hy h1).cells h3
    have hlen : l.length = n := by simpa using h5
    have hsz : (a.eval y).cells.size = n := by rw [← Array.length_toList, ← hv.length]; exact hlen
    have hcl := hr.length
    simp at hcl
    have hfold := foldl_put (a.eval y).cells.toList off 0 cells (by simp; omega)
    have hnew : RelL (RelW φ) (cs.take off ++ l ++ cs.drop (off + l.length)) (cells.toList.take (off + 0) ++ (a.eval y).cells.toList ++ cells.toList.drop (off + 0 + (a.eval y).cells.toList.length)) := by
      refine ((hr.take off).append hv).append ?_
      rw [← hv.length]
      exact hr.drop _
    obtain ⟨arr, k1, k2⟩ := fill_rel hs (cells := (cells.toList.take (off + 0) ++ (a.eval y).cells.toList ++ cells.toList.drop (off + 0 + (a.eval y).cells.toList.length)).toArray) hk hnew h8
    refine ⟨arr, ?_, k2⟩
    rw [← k1]
    simp only [List.map_cons, Instr.fill, hp]
    rw [if_neg (by simp [hsz]; omega)]
    congr 1
    rw [← hfold]
    have hz : (a.eval y).cells.zipIdx = ((a.eval y).cells.toList.zipIdx).toArray := by
      apply Array.ext'; simp
    rw [hz, List.foldl_toArray' (h := rfl)]
  | [], _ :: _, _, _, _, hk, _, _ => by simp [okParts] at hk
  | _ :: _, [], _, _, _, hk, _, _ => by simp [okParts] at hk
theorem fill_len : ∀ {ps : List (Nat × Nat × Opd)} {cs r : List W}, fill s ps cs = some r → r.length = cs.length
  | [], cs, r, hf => by cases hf; rfl
  | (off, n, x) :: ps, cs, r, hf => by
    obtain ⟨v, h1, h2⟩ := bnd_eq.1 (show bnd (opd s x) (fun v => onCells v (fun l => guardB (Nat.beq (lenX l) n) (bnd (splice off l cs) (fill s ps)))) = some r from hf)
    obtain ⟨l, h3, h4⟩ := onCells_eq.1 h2
    obtain ⟨h5, h6⟩ := guardB_eq.1 h4
    obtain ⟨cs', h7, h8⟩ := bnd_eq.1 h6
    obtain ⟨h9, rfl⟩ := splice_eq.1 h7
    rw [fill_len h8]; simp; omega
/-- the zero cells of a type -/
def zeroCellsIs (p : Program) (t : TypeId) (cs : List W) : Bool := match p.info? t with | some i => (match i.zero with | some z => okWL z.cells.toList cs | none => false) | none => false
theorem zeroCellsIs_eq {t : TypeId} {cs : List W} (hz : zeroCellsIs p t cs = true) : ∃ z' : Value, (∀ w, (zeroValue t).run p w = .ok z' w) ∧ ∀ φ, RelL (RelW φ) cs z'.cells.toList := by
  unfold zeroCellsIs at hz
  split at hz
  · rename_i i hi
    split at hz
    · rename_i z' hz'; exact ⟨z', fun w => by simp [zeroValue, typeInfo, hi, hz'], fun φ => okWL_rel φ hz⟩
    · cases hz
  · cases hz
def placesOf (p : Program) : List Field → Option (List (Nat × Nat))
  | [] => some []
  | f :: fs => match p.info? f.type, placesOf p fs with | some i, some l => some ((f.offset, i.size) :: l) | _, _ => none
theorem run_placesOf : ∀ {fs : List Field} {l : List (Nat × Nat)}, placesOf p fs = some l → (fs.mapM (fun f => do pure (f.offset, ← sizeOf f.type) : Field → Sem (Nat × Nat))).run p w = .ok l w
  | [], l, hl => by cases hl; simp
  | f :: fs, l, hl => by
    unfold placesOf at hl
    split at hl
    · rename_i i l' hi hl'
      cases hl
      have e1 : (do pure (f.offset, ← sizeOf f.type) : Sem (Nat × Nat)).run p w = .ok (f.offset, i.size) w := by simp [sizeOf, typeInfo, hi]
      rw [List.mapM_cons, Sem.run_bind, e1]
      simp only [Result.andThen_ok, Sem.run_bind, run_placesOf hl', Sem.run_pure]
    · cases hl
def okBld (p : Program) (t : TypeId) (ys : List (Nat × Operand)) (z : List W) (ps : List (Nat × Nat × Opd)) : Bool :=
  zeroCellsIs p t z && (match p.underlying t with
    | some (.struct fs) => (match placesOf p fs.toList with | some l => okParts (fun i => l[i]?) ys ps | none => false)
    | some (.array _ e) => (match p.info? e with | some i => okParts (fun j => some (j * i.size, i.size)) ys ps | none => false)
    | _ => false)
theorem op_bld {t : TypeId} {ys : Array (Nat × Operand)} {z : List W} {ps : List (Nat × Nat × Opd)} (ho : o.op = .build t ys) (hk : okBld p t ys.toList z ps = true) (hs : RelS φ s a.tmps) (sim : Sim cr B0 φ h w)
    (hx : aBld s h z ps = some (v, h')) : Exec p a.eval o w (Res cr B0 φ h w v h') := by
  obtain ⟨cs, h1, h2⟩ := bnd_eq.1 hx
  cases h2
  simp only [okBld, Bool.and_eq_true] at hk
  obtain ⟨hz, hk⟩ := hk
  obtain ⟨z', k1, k2⟩ := zeroCellsIs_eq hz
  split at hk
  · rename_i fs hfs
    split at hk
    · rename_i l hl
      obtain ⟨arr, q1, q2⟩ := fill_rel hs hk (k2 φ) h1
      refine Exec.val (v' := .agg arr) (w' := w) ?_ (Res.same sim ⟨arr, rfl, q2⟩)
      have hm := run_placesOf (w := w) hl
      have hm2 : (fs.mapM (fun f => do pure (f.offset, ← sizeOf f.type) : Field → Sem (Nat × Nat))).run p w = .ok l.toArray w := by
        rw [Array.mapM_eq_mapM_toList]
        simp only [Sem.run_map, hm, Result.andThen_ok]
      have hq : Instr.fill (fun x => l.toArray[x]?) z'.cells (ys.map fun (x : Nat × Operand) => (x.1, a.eval x.2)).toList = some arr := by
        simpa using q1
      simp only [execOp, ho, Instr.build, Sem.run_bind, k1, run_underlying hfs, hm2, Result.andThen_ok, hq, Sem.run_pure]
    · cases hk
  · rename_i n e he
    split at hk
    · rename_i i hi
      obtain ⟨arr, q1, q2⟩ := fill_rel hs hk (k2 φ) h1
      refine Exec.val (v' := .agg arr) (w' := w) ?_ (Res.same sim ⟨arr, rfl, q2⟩)
      have hq : Instr.fill (fun j => some (j * i.size, i.size)) z'.cells (ys.map fun (x : Nat × Operand) => (x.1, a.eval x.2)).toList = some arr := by
        simpa using q1
      have hsz : (sizeOf e).run p w = .ok i.size w := by simp [sizeOf, typeInfo, hi]
      simp only [execOp, ho, Instr.build, Sem.run_bind, k1, run_underlying he, hsz, Result.andThen_ok, hq, Sem.run_pure]
    · cases hk
  · cases hk
def okBsl (p : Program) (t len : Nat) (ys : List (Nat × Operand)) (z len' : Nat) (zc : List W) (ps : List (Nat × Nat × Opd)) : Bool :=
  Nat.beq len len' && (match p.underlying t with
    | some (.slice e) => sizeIs p e z && Nat.ble (len * z) 16777216 && okParts (fun j => some (j * z, z)) ys ps &&
        (match p.info? e with
         | some i => (match i.zero with | some z0 => (Nat.beq (len * z) 0 && zc.isEmpty) || (!(Nat.beq (len * z) 0) && okWL ((Array.range (len * z)).map (z0.cells[· % z0.cells.size]!)).toList zc) | none => false)
         | none => false)
    | _ => false)
theorem op_bsl {t len : Nat} {ys : Array (Nat × Operand)} {T z len' : Nat} {zc : List W} {ps : List (Nat × Nat × Opd)} (ho : o.op = .buildSlice t len ys) (hT : elemIs p t T = true) (hk : okBsl p t len ys.toList z len' zc ps = true) (hs : RelS φ s a.tmps)
    (sim : Sim cr B0 φ h w) (hx : aBsl s h T z len' zc ps = some (v, h')) : Exec p a.eval o w (Res cr B0 φ h w v h') := by
  obtain ⟨cs, h1, h2⟩ := bnd_eq.1 hx
  rw [H.new_eq] at h2
  cases h2
  simp only [okBsl, Bool.and_eq_true] at hk
  obtain ⟨hlen, hk⟩ := hk
  have hlen : len = len' := by simpa using hlen
  subst hlen
  split at hk
  · rename_i e he
    have eT := elemIs_eq hT he
    simp only [Bool.and_eq_true] at hk
    obtain ⟨⟨⟨hz, hle⟩, hp⟩, hk⟩ := hk
    have hle : len * z ≤ 16777216 := by simpa using hle
    split at hk
    · rename_i i hi
      split at hk
      · rename_i z0 hz0
        have hzero : ∃ zz : Array Value, ((len * z = 0 ∧ zz = #[]) ∨ (¬ len * z = 0 ∧ (zeroValue e).run p w = .ok z0 w ∧ zz = z0.cells)) ∧ RelL (RelW φ) zc ((Array.range (len * z)).map (zz[· % zz.size]!)).toList := by
          by_cases h0 : len * z = 0
          · refine ⟨#[], .inl ⟨h0, rfl⟩, ?_⟩
            simp [h0] at hk
            rw [h0, hk]
            simp [RelL]
          · refine ⟨z0.cells, .inr ⟨h0, by simp [zeroValue, typeInfo, hi, hz0], rfl⟩, ?_⟩
            simp only [Nat.beq_eq_true_eq, h0, Bool.or_eq_true, Bool.and_eq_true, Bool.not_eq_true'] at hk
            rcases hk with hk | hk
            · exact absurd (by simpa using hk.1) h0
            · exact okWL_rel φ hk.2
        obtain ⟨zz, k1, k2⟩ := hzero
        obtain ⟨arr, q1, q2⟩ := fill_rel hs hp k2 h1
        have hq : Instr.fill (fun j => some (j * z, z)) ((Array.range (len * z)).map (zz[· % zz.size]!)) (ys.map fun (x : Nat × Operand) => (x.1, a.eval x.2)).toList = some arr := by
          simpa using q1
        obtain ⟨s1, e1⟩ := sim.newRow T e (by omega) q2
        have harr : arr.size = len * z := by
          have f1 := q2.length
          have f2 := k2.length
          have f3 : cs.length = zc.length := fill_len h1
          simp at f1 f2
          omega
        refine Exec.val (v' := .slice (some ⟨w.heap.size, 0, none⟩) len len) (w' := w.alloc (.cells arr e)) ?_ ⟨_, s1, e1, ⟨_, _, _, _, len, Phi.upd_same _ _ _, rfl, fun _ => rfl, Nat.le_refl _, Nat.le_refl _, fun _ => rfl, fun L hL => by cases hL; simp [harr]⟩⟩
        have hng : ¬ (len * z > 2 ^ 24) := by omega
        rcases k1 with ⟨h0, rfl⟩ | ⟨h0, k1, rfl⟩
        · simp only [execOp, ho, Instr.buildSlice, Sem.run_bind, run_underlying he, run_size hz, Result.andThen_ok, hng, if_false, Sem.run_pure, h0, if_true, newRow, run_newObj_alloc] at hq ⊢
          rw [if_neg (by decide)]
          simp only [Sem.run_bind, Sem.run_pure, Result.andThen_ok, hq, run_newObj_alloc]
        · simp only [execOp, ho, Instr.buildSlice, Sem.run_bind, run_underlying he, run_size hz, Result.andThen_ok, hng, if_false, Sem.run_pure, h0, newRow, run_newObj_alloc, k1, hq]
      · cases hk
    · cases hk
  · cases hk
end
end Go.Am
namespace Go.Am
set_option autoImplicit false
set_option linter.unusedSimpArgs false
set_option linter.unusedVariables false
section
variable {cr : CR} {B0 : Nat} {φ : Phi} {h h' : H} {w : World} {p : Program} {o : Oper} {s : S} {a : Act} {v : V}

theorem part_rel {cs : List W} {arr : Array Value} (hr : RelL (RelW φ) cs arr.toList) {off : Nat} {n : Option Nat} {t : TypeId} (hn : okN p t n = true) (hc : cellN n (dropX off cs) = some v) :
    ∃ v', (part t arr off).run p w = .ok v' w ∧ RelV φ v v' := by
  have hd := hr.drop off
  cases n with
  | none =>
    simp [okN] at hn
    obtain ⟨x, h1, h2⟩ := headO_eq.1 (show headO (dropX off cs) (fun x => some (V.w x)) = some v from hc)
    cases h2
    rw [dropX_eq] at h1
    obtain ⟨v', k1, k2⟩ := hd.at 0 x h1
    refine ⟨v', ?_, k2⟩
    rw [List.getElem?_drop, Array.getElem?_toList, Nat.add_zero] at k1
    unfold part
    simp [Sem.run_bind, run_agg_false hn.1 hn.2, k1]
  | some n =>
    simp [okN] at hn
    obtain ⟨l, h1, h2⟩ := bnd_eq.1 (show bnd (takeX n (dropX off cs)) (fun l => some (V.a l)) = some v from hc)
    cases h2
    rw [dropX_eq] at h1
    obtain ⟨h3, rfl⟩ := takeX_eq.1 h1
    refine ⟨.agg (arr.extract off (off + n)), ?_, ⟨_, rfl, ?_⟩⟩
    · unfold part
      simp [Sem.run_bind, run_agg_true hn.1, run_size hn.2]
    · have := hd.take n
      simpa [Array.toList_extract, List.extract] using this
def okFld (p : Program) (t : TypeId) (f off : Nat) (n : Option Nat) : Bool :=
  match fieldOf p t f with
  | some fd => Nat.beq fd.offset off && okN p fd.type n
  | none => false
theorem op_fld {t : TypeId} {y : Operand} {f off : Nat} {n : Option Nat} {x : Opd} (ho : o.op = .field t y f) (hy : okO y x = true) (hf : okFld p t f off n = true) (hs : RelS φ s a.tmps) (sim : Sim cr B0 φ h w)
    (hx : aFld s h off n x = some (v, h')) : Exec p a.eval o w (Res cr B0 φ h w v h') := by
  obtain ⟨v1, h1, h2⟩ := bnd_eq.1 hx
  obtain ⟨cs, rfl, h3⟩ := onAgg_eq.1 h2
  obtain ⟨v2, h4, h5⟩ := bnd_eq.1 h3
  cases h5
  obtain ⟨arr, k1, k2⟩ := okO_rel hs hy h1
  unfold okFld at hf
  split at hf
  · rename_i fd hfd
    obtain ⟨fs, hfs, hget⟩ := fieldOf_eq hfd
    simp only [Bool.and_eq_true] at hf
    have hoff : fd.offset = off := by simpa using hf.1
    obtain ⟨v', k3, k4⟩ := part_rel (p := p) (w := w) k2 hf.2 h4
    exact Exec.val (v' := v') (w' := w) (by simp [execOp, ho, Instr.field, run_underlying hfs, hget, k1, asAgg, hoff, k3]) (Res.same sim k4)
  · cases hf
def okIdv (p : Program) (t len z : Nat) (n : Option Nat) : Bool := match p.underlying t with | some (.array m e) => Nat.beq m len && sizeIs p e z && okN p e n | _ => false
theorem op_idv {t : TypeId} {y i : Operand} {len z : Nat} {n : Option Nat} {x1 x2 : Opd} (ho : o.op = .index t y i) (hy : okO y x1 = true) (hi : okO i x2 = true) (hz : okIdv p t len z n = true) (hs : RelS φ s a.tmps) (sim : Sim cr B0 φ h w)
    (hx : aIdv s h len z n x1 x2 = some (v, h')) : Exec p a.eval o w (Res cr B0 φ h w v h') := by
  obtain ⟨v1, h1, h2⟩ := bnd_eq.1 hx
  obtain ⟨cs, rfl, h3⟩ := onAgg_eq.1 h2
  obtain ⟨v2, h4, h5⟩ := bnd_eq.1 h3
  obtain ⟨k, m, rfl, h6⟩ := onNat_eq.1 h5
  obtain ⟨h7, h8⟩ := guardB_eq.1 h6
  obtain ⟨v3, h9, h10⟩ := bnd_eq.1 h8
  cases h10
  obtain ⟨arr, k1, k2⟩ := okO_rel hs hy h1
  have k4 : a.eval i = .int k (Int.ofNat m) := okO_rel hs hi h4
  have hlt : m < len := by simpa [Nat.blt_eq] using h7
  unfold okIdv at hz
  split at hz
  · rename_i m' e he
    simp only [Bool.and_eq_true] at hz
    have hm : m' = len := by simpa using hz.1.1
    subst hm
    obtain ⟨v', k5, k6⟩ := part_rel (p := p) (w := w) k2 hz.2 h9
    have k5' : (part e arr (m * z)).run p w = .ok v' w := k5
    exact Exec.val (v' := v') (w' := w) (by simp [execOp, ho, Instr.index, run_underlying he, k1, k4, asIntOf, hlt, run_size hz.1.2, k5']) (Res.same sim k6)
  · cases hz
def isStrT (p : Program) (t : TypeId) : Bool := match p.underlying t with | some .string => true | _ => false
theorem isStrT_eq {t : TypeId} (ht : isStrT p t = true) : p.underlying t = some .string := by
  unfold isStrT at ht; split at ht
  · assumption
  · cases ht
theorem wStr_eq {β : Type} {b : β} {v : V} {f : List UInt8 → Option β} : onW v (wStr f) = some b ↔ ∃ c, v = .w (.str c) ∧ f c = some b := by
  rw [onW_eq]
  constructor
  · rintro ⟨x, rfl, h⟩; cases x <;> first | (cases h; done) | exact ⟨_, rfl, h⟩
  · rintro ⟨p, rfl, h⟩; exact ⟨_, rfl, h⟩
theorem op_ids {t : TypeId} {y i : Operand} {x1 x2 : Opd} (ho : o.op = .index t y i) (hy : okO y x1 = true) (hi : okO i x2 = true) (hz : isStrT p t = true) (hs : RelS φ s a.tmps) (sim : Sim cr B0 φ h w)
    (hx : aIds s h x1 x2 = some (v, h')) : Exec p a.eval o w (Res cr B0 φ h w v h') := by
  obtain ⟨v1, h1, h2⟩ := bnd_eq.1 hx
  obtain ⟨l, rfl, h3⟩ := wStr_eq.1 h2
  obtain ⟨v2, h4, h5⟩ := bnd_eq.1 h3
  obtain ⟨k, m, rfl, h6⟩ := onNat_eq.1 h5
  obtain ⟨c, h7, h8⟩ := bnd_eq.1 h6
  rw [iInt_eq] at h8
  cases h8
  rw [nthX_eq] at h7
  have k1 : a.eval y = .string ⟨l.toArray⟩ := okO_rel hs hy h1
  have k4 : a.eval i = .int k (Int.ofNat m) := okO_rel hs hi h4
  have hlt := (List.getElem?_eq_some_iff.1 h7)
  refine Exec.val (v' := .int .u8 (Int.ofNat c.toNat)) (w' := w) ?_ (Res.same sim rfl)
  have hb : (⟨l.toArray⟩ : ByteArray)[m]? = some c := by
    obtain ⟨hl, hc⟩ := hlt
    rw [getElem?_pos (⟨l.toArray⟩ : ByteArray) m (by simpa [ByteArray.size] using hl)]
    congr 1
  simp [execOp, ho, Instr.index, run_underlying (isStrT_eq hz), k1, k4, asIntOf, hb]

/-! == of structs whose fields are plain cells -/
def kindOf (p : Program) (t : TypeId) : Option Nat := match p.underlying t with | some (.int _) => some 0 | some .bool => some 1 | some .string => some 2 | _ => none
def flatFields (p : Program) : List Field → List Nat → Nat → Bool
  | [], [], _ => true
  | f :: fs, k :: ks, j => decide (f.name ≠ "_") && decide (kindOf p f.type = some k) && Nat.beq f.offset j && flatFields p fs ks (j + 1)
  | _, _, _ => false
def okFlat (p : Program) (t : TypeId) (ks : List Nat) : Bool :=
  match p.underlying t with
  | some (.struct fs) => flatFields p fs.toList ks 0 && !p.stoodInHeld t
  | _ => false
theorem eqK_run {k : Nat} {x y : W} {v v' : Value} {t : TypeId} {r : Bool} (ht : kindOf p t = some k) (hx : RelW φ x v) (hy : RelW φ y v') (he : eqK k x y = some r) (d : Nat) : (Op.equalIn (d + 1) t v v').run p w = .ok r w := by
  unfold kindOf at ht
  split at ht
  · rename_i j hu
    cases ht
    change eqI x y = some r at he
    cases x <;> simp only [eqI, reduceCtorEq] at he
    cases y <;> simp only [wInt, reduceCtorEq] at he
    obtain ⟨h1, h2⟩ := guardB_eq.1 he
    have h1 := of_decide_eq_true h1
    subst h1
    cases h2
    simp only [RelW] at hx hy
    subst hx hy
    simp [Op.equalIn, run_underlying hu, BEq.beq]
  · rename_i hu
    cases ht
    change eqBo x y = some r at he
    cases x <;> simp only [eqBo, reduceCtorEq] at he
    cases y <;> simp only [reduceCtorEq] at he
    cases he
    simp only [RelW] at hx hy
    subst hx hy
    exact run_equalIn_bool w d t _ _ hu
  · rename_i hu
    cases ht
    change eqSt x y = some r at he
    cases x <;> simp only [eqSt, reduceCtorEq] at he
    cases y <;> simp only [reduceCtorEq] at he
    cases he
    simp only [RelW] at hx hy
    subst hx hy
    rename_i b c
    have : ((⟨b.toArray⟩ : ByteArray) == ⟨c.toArray⟩) = decide (b = c) := by
      rw [beq_toListBytes, ByteArray.toList_eq, ByteArray.toList_eq]
      simp [Bool.beq_eq_decide_eq]
    simp [Op.equalIn, run_underlying hu, this]
  · cases ht
theorem part_one {t : TypeId} {k : Nat} (ht : kindOf p t = some k) {arr : Array Value} {off : Nat} {v : Value} (hv : arr[off]? = some v) : (part t arr off).run p w = .ok v w := by
  have h1 : isAggT p t = false ∧ (p.underlying t).isSome = true := by
    unfold kindOf at ht
    unfold isAggT
    split at ht <;> simp_all
  unfold part
  simp [Sem.run_bind, run_agg_false h1.1 h1.2, hv]
theorem eqN_run (d : Nat) : ∀ {fs : List Field} {ks : List Nat} {j : Nat} {xs ys : List W} {arr brr : Array Value} {r : Bool}, flatFields p fs ks j = true → RelL (RelW φ) xs (arr.toList.drop j) → RelL (RelW φ) ys (brr.toList.drop j) →
    eqN ks xs ys = some r → (Op.eqFields (d + 1) arr brr fs).run p w = .ok r w
  | [], [], j, xs, ys, arr, brr, r, _, _, _, he => by
    cases xs with
    | nil => cases ys with
      | nil => cases he; simp [Op.eqFields]
      | cons _ _ => cases he
    | cons _ _ => cases he
  | f :: fs, k :: ks, j, xs, ys, arr, brr, r, hf, hx, hy, he => by
    simp only [flatFields, Bool.and_eq_true, decide_eq_true_eq] at hf
    obtain ⟨⟨⟨h1, h2⟩, h3⟩, h4⟩ := hf
    have h3 : f.offset = j := by simpa using h3
    cases xs with
    | nil => cases he
    | cons x xs =>
      cases ys with
      | nil => cases he
      | cons y ys =>
        obtain ⟨b, k1, k2⟩ := bnd_eq.1 (show bnd (eqK k x y) (fun r => Bool.rec (motive := fun _ => Option Bool) (some false) (eqN ks xs ys) r) = some r from he)
        obtain ⟨va, q1, q2⟩ := hx.at 0 x rfl
        obtain ⟨vb, q3, q4⟩ := hy.at 0 y rfl
        rw [List.getElem?_drop, Array.getElem?_toList, Nat.add_zero] at q1 q3
        have hx' : RelL (RelW φ) xs (arr.toList.drop (j + 1)) := by have := hx.drop 1; rw [List.drop_drop] at this; exact this
        have hy' : RelL (RelW φ) ys (brr.toList.drop (j + 1)) := by have := hy.drop 1; rw [List.drop_drop] at this; exact this
        have e1 := eqK_run (p := p) (w := w) h2 q2 q4 k1 d
        simp only [Op.eqFields, h1, ne_eq, not_false_eq_true, if_true, Sem.run_bind, h3, part_one h2 q1, part_one h2 q3, Result.andThen_ok, e1]
        cases b with
        | false => cases k2; simp
        | true => simpa using eqN_run d h4 hx' hy' k2
  | [], _ :: _, _, _, _, _, _, _, hf, _, _, _ => by simp [flatFields] at hf
  | _ :: _, [], _, _, _, _, _, _, hf, _, _, _ => by simp [flatFields] at hf
theorem okFlat_run {t : TypeId} {ks : List Nat} (ht : okFlat p t ks = true) {xs ys : List W} {arr brr : Array Value} {r : Bool} (hx : RelL (RelW φ) xs arr.toList) (hy : RelL (RelW φ) ys brr.toList) (he : eqN ks xs ys = some r) (d : Nat) :
    (Op.equalIn (d + 2) t (.agg arr) (.agg brr)).run p w = .ok r w := by
  unfold okFlat at ht
  split at ht
  · rename_i fs hfs
    simp only [Bool.and_eq_true, Bool.not_eq_true'] at ht
    have hfo : p.fieldsOf t = fs := by simp [Program.fieldsOf, hfs]
    rw [run_equalIn_struct w (d + 1) t arr brr (by rw [hfo]; exact hfs) ht.2, hfo]
    exact eqN_run d ht.1 (by simpa using hx) (by simpa using hy) he
  · cases ht
theorem op_eqs {op : BinOp} {neq : Bool} {t u : TypeId} {ks : List Nat} {y z : Operand} {x1 x2 : Opd} (ho : o.op = .binOp op t y z u) (hop : op = bif neq then .neq else .eql) (ht : okFlat p t ks = true) (hg : p.eqGuardType p.depth t = false)
    (hy : okO y x1 = true) (hz : okO z x2 = true) (hs : RelS φ s a.tmps) (sim : Sim cr B0 φ h w) (hx : aEqs s h ks neq x1 x2 = some (v, h')) : Exec p a.eval o w (Res cr B0 φ h w v h') := by
  obtain ⟨v1, h1, h2⟩ := bnd_eq.1 hx
  obtain ⟨b, rfl, h3⟩ := onAgg_eq.1 h2
  obtain ⟨v2, h4, h5⟩ := bnd_eq.1 h3
  obtain ⟨c, rfl, h6⟩ := onAgg_eq.1 h5
  obtain ⟨r, h7, h8⟩ := bnd_eq.1 h6
  rw [boolK_eq] at h8
  cases h8
  obtain ⟨arr, e1, r1⟩ := okO_rel hs hy h1
  obtain ⟨brr, e2, r2⟩ := okO_rel hs hz h4
  have hq := okFlat_run (p := p) (w := w) ht r1 r2 h7 9998
  subst hop
  refine Exec.val (v' := .bool (r != neq)) (w' := w) ?_ (Res.same sim rfl)
  have eg : ∀ op, (eqGuard op t y z (.agg arr) (.agg brr)).run p w = .ok () w := by intro op; unfold eqGuard; cases op <;> simp [hg]
  have hq' : (Op.equal t (.agg arr) (.agg brr)).run p w = .ok r w := hq
  cases neq
  · simp [execOp, ho, e1, e2, eg, binOp, hq']
  · simp [execOp, ho, e1, e2, eg, binOp, hq']
def nilKind (p : Program) (t : TypeId) : Option Nat := match p.underlying t with | some (.slice _) => some 0 | some (.map _ _) => some 1 | some (.func _ _ _) => some 2 | some (.pointer _) => some 3 | _ => none
/-- of two, one of them nil -/
theorem isNil_run {x y : W} {v v' : Value} {t : TypeId} {k : Nat} {rx ry : Bool} (ht : nilKind p t = some k) (hx : RelW φ x v) (hy : RelW φ y v') (h1 : isNil k x = some rx) (h2 : isNil k y = some ry) (h3 : (rx || ry) = true) :
    ∀ d, (Op.equalIn (d + 1) t v v').run p w = .ok (rx && ry) w := by
  intro d
  unfold nilKind at ht
  split at ht
  · rename_i e hu
    cases ht
    simp only [isNil] at h1 h2
    cases x <;> simp only [nilS, Option.some.injEq, reduceCtorEq] at h1 <;> cases y <;> simp only [nilS, Option.some.injEq, reduceCtorEq] at h2 <;> subst h1 h2 <;> simp only [RelW] at hx hy
    · subst hx hy; simp [Op.equalIn, run_underlying hu]
    · obtain ⟨_, _, _, _, _, _, rfl, _⟩ := hy; subst hx; simp [Op.equalIn, run_underlying hu]
    · obtain ⟨_, _, _, _, _, _, rfl, _⟩ := hx; subst hy; simp [Op.equalIn, run_underlying hu]
    · cases h3
  · rename_i e f hu
    cases ht
    simp only [isNil] at h1 h2
    cases x <;> simp only [nilM, Option.some.injEq, reduceCtorEq] at h1 <;> cases y <;> simp only [nilM, Option.some.injEq, reduceCtorEq] at h2 <;> subst h1 h2 <;> simp only [RelW] at hx hy
    · subst hx hy; simp [Op.equalIn, run_underlying hu]
    · obtain ⟨_, _, rfl⟩ := hy; subst hx; simp [Op.equalIn, run_underlying hu]
    · obtain ⟨_, _, rfl⟩ := hx; subst hy; simp [Op.equalIn, run_underlying hu]
    · cases h3
  · rename_i e f g hu
    cases ht
    simp only [isNil] at h1 h2
    cases x <;> simp only [nilF, Option.some.injEq, reduceCtorEq] at h1 <;> cases y <;> simp only [nilF, Option.some.injEq, reduceCtorEq] at h2 <;> subst h1 h2 <;> simp only [RelW] at hx hy <;> try (cases h3; done)
    · subst hx hy; simp [Op.equalIn, run_underlying hu]
    · subst hx hy; simp [Op.equalIn, run_underlying hu]
    · obtain ⟨_, _, _, rfl⟩ := hy; subst hx; simp [Op.equalIn, run_underlying hu]
    · subst hx hy; simp [Op.equalIn, run_underlying hu]
    · obtain ⟨_, _, _, rfl⟩ := hx; subst hy; simp [Op.equalIn, run_underlying hu]
  · rename_i e hu
    cases ht
    simp only [isNil] at h1 h2
    cases x <;> simp only [nilP, Option.some.injEq, reduceCtorEq] at h1 <;> cases y <;> simp only [nilP, Option.some.injEq, reduceCtorEq] at h2 <;> subst h1 h2 <;> simp only [RelW] at hx hy
    · subst hx hy; simp [Op.equalIn, run_underlying hu]
    · obtain ⟨_, _, _, _, rfl⟩ := hy; subst hx; simp [Op.equalIn, run_underlying hu]
    · obtain ⟨_, _, _, _, rfl⟩ := hx; subst hy; simp [Op.equalIn, run_underlying hu]
    · cases h3
  · cases ht
def NF (k : Nat) (v : Value) : Prop := match k with
  | 0 => ∃ a l c, v = .slice a l c
  | 1 => ∃ m, v = .map m
  | 2 => v = .nilFunc ∨ ∃ f a b, v = .func f a b
  | _ => ∃ a, v = .pointer a
theorem nilForm {k : Nat} {x : W} {v : Value} {r : Bool} (h1 : isNil k x = some r) (hx : RelW φ x v) : NF k v := by
  rcases k with _ | _ | _ | k
  · change nilS x = some r at h1
    cases x <;> simp only [nilS, reduceCtorEq] at h1 <;> simp only [RelW] at hx
    · exact ⟨_, _, _, hx⟩
    · obtain ⟨_, _, _, _, _, _, rfl, _⟩ := hx; exact ⟨_, _, _, rfl⟩
  · change nilM x = some r at h1
    cases x <;> simp only [nilM, reduceCtorEq] at h1 <;> simp only [RelW] at hx
    · exact ⟨_, hx⟩
    · obtain ⟨_, _, rfl⟩ := hx; exact ⟨_, rfl⟩
  · change nilF x = some r at h1
    cases x <;> simp only [nilF, reduceCtorEq] at h1 <;> simp only [RelW] at hx
    · exact .inl hx
    · exact .inr ⟨_, _, _, hx⟩
    · obtain ⟨_, _, _, rfl⟩ := hx; exact .inr ⟨_, _, _, rfl⟩
  · change nilP x = some r at h1
    cases x <;> simp only [nilP, reduceCtorEq] at h1 <;> simp only [RelW] at hx
    · exact ⟨_, hx⟩
    · obtain ⟨_, _, _, _, rfl⟩ := hx; exact ⟨_, rfl⟩
theorem nf_run {k : Nat} {v v' : Value} (h1 : NF k v) (h2 : NF k v') (op : BinOp) (hop : op = .eql ∨ op = .neq) {t : TypeId} (a b : Operand) {r : Bool} (hq : (Op.equal t v v').run p w = .ok r w) :
    (eqGuard op t a b v v').run p w = .ok () w ∧ (binOp op t v v').run p w = .ok (.bool (r != (op == .neq))) w := by
  have e1 : (r != (BinOp.eql == .neq)) = r := by cases r <;> rfl
  have e2 : (r != (BinOp.neq == .neq)) = !r := by cases r <;> rfl
  rcases k with _ | _ | _ | k
  · obtain ⟨_, _, _, rfl⟩ := h1; obtain ⟨_, _, _, rfl⟩ := h2
    rcases hop with rfl | rfl <;> simp [eqGuard, binOp, hq, e1, e2]
  · obtain ⟨_, rfl⟩ := h1; obtain ⟨_, rfl⟩ := h2
    rcases hop with rfl | rfl <;> simp [eqGuard, binOp, hq, e1, e2]
  · rcases h1 with rfl | ⟨_, _, _, rfl⟩ <;> rcases h2 with rfl | ⟨_, _, _, rfl⟩ <;> rcases hop with rfl | rfl <;> simp [eqGuard, binOp, hq, e1, e2]
  · obtain ⟨_, rfl⟩ := h1; obtain ⟨_, rfl⟩ := h2
    rcases hop with rfl | rfl <;> simp [eqGuard, binOp, hq, e1, e2]
theorem op_eqn {op : BinOp} {neq : Bool} {t u : TypeId} {k : Nat} {y z : Operand} {x1 x2 : Opd} (ho : o.op = .binOp op t y z u) (hop : op = bif neq then .neq else .eql) (ht : nilKind p t = some k)
    (hy : okO y x1 = true) (hz : okO z x2 = true) (hs : RelS φ s a.tmps) (sim : Sim cr B0 φ h w) (hx : aEqn s h k neq x1 x2 = some (v, h')) : Exec p a.eval o w (Res cr B0 φ h w v h') := by
  obtain ⟨v1, h1, h2⟩ := bnd_eq.1 hx
  obtain ⟨b, rfl, h3⟩ := onW_eq.1 h2
  obtain ⟨v2, h4, h5⟩ := bnd_eq.1 h3
  obtain ⟨c, rfl, h6⟩ := onW_eq.1 h5
  obtain ⟨rb, h7, h8⟩ := bnd_eq.1 h6
  obtain ⟨rc, h9, h10⟩ := bnd_eq.1 h8
  obtain ⟨h11, h12⟩ := guardB_eq.1 h10
  rw [boolK_eq] at h12
  cases h12
  have r1 : RelW φ b (a.eval y) := okO_rel hs hy h1
  have r2 : RelW φ c (a.eval z) := okO_rel hs hz h4
  have hq : (Op.equal t (a.eval y) (a.eval z)).run p w = .ok (rb && rc) w := isNil_run (p := p) (w := w) ht r1 r2 h7 h9 h11 9999
  refine Exec.val (v' := .bool ((rb && rc) != neq)) (w' := w) ?_ (Res.same sim rfl)
  have hop' : op = .eql ∨ op = .neq := by cases neq <;> simp [hop]
  obtain ⟨e1, e2⟩ := nf_run (p := p) (w := w) (nilForm h7 r1) (nilForm h9 r2) op hop' y z hq
  have hn : (op == .neq) = neq := by cases neq <;> simp [hop]
  simp only [execOp, ho, Sem.run_bind, e1, e2, Result.andThen_ok, hn, Sem.run_pure]
end
end Go.Am
namespace Go.Am
set_option autoImplicit false
set_option linter.unusedSimpArgs false
set_option linter.unusedVariables false
section
variable {cr : CR} {B0 : Nat} {φ : Phi} {h h' : H} {w : World} {p : Program} {o : Oper} {s : S} {a : Act} {v : V}

theorem mnxL_run (mx : Bool) (k : IntKind) : ∀ {vs : List V} {ws : List Value} {m : Int}, RelL (RelV φ) vs ws → mnxL mx k vs m = some v →
    ∃ n, v = .w (.int k n) ∧ (ws.foldlM (if mx then Builtin.max2 else Builtin.min2) (.int k m)).run p w = .ok (.int k n) w
  | [], [], m, _, hx => by cases hx; exact ⟨m, rfl, by simp⟩
  | x :: vs, y :: ws, m, ⟨h1, h2⟩, hx => by
    obtain ⟨j, b, rfl, h3⟩ := onInt_eq.1 (show onInt x (fun _ b => intK (mnx2 mx m b) (mnxL mx k vs)) = some v from hx)
    rw [intK_eq] at h3
    obtain ⟨n, rfl, h4⟩ := mnxL_run mx k h2 h3
    refine ⟨n, rfl, ?_⟩
    have e1 : y = .int j b := h1
    subst e1
    rw [List.foldlM_cons, Sem.run_bind]
    have e2 : ((if mx then Builtin.max2 else Builtin.min2) (.int k m) (.int j b)).run p w = .ok (.int k (mnx2 mx m b)) w := by
      cases mx
      · simp only [Bool.false_eq_true, if_false, Builtin.min2, mnx2]
        by_cases hb : b < m <;> simp [hb]
      · simp only [if_true, Builtin.max2, mnx2]
        by_cases hb : m < b <;> simp [hb]
    rw [e2]
    exact h4
theorem op_mnx {mx : Bool} {b : Builtin} {ts : Array TypeId} {ys : Array Operand} {xs : List Opd} (ho : o.op = .call { callee := .builtin b, args := ys, argTypes := ts }) (hb : b = bif mx then .max else .min) (hy : okOL ys.toList xs = true)
    (hs : RelS φ s a.tmps) (sim : Sim cr B0 φ h w) (hx : aMnx s h mx xs = some (v, h')) : Exec p a.eval o w (Res cr B0 φ h w v h') := by
  obtain ⟨vs, h1, h2⟩ := bnd_eq.1 hx
  have hr := opds_rel hs hy h1
  match vs, hws : ys.toList.map a.eval, hr, h2 with
  | x :: vs, y :: ws, ⟨r1, r2⟩, h2 =>
    obtain ⟨k, m, rfl, h3⟩ := onInt_eq.1 (show onInt x (fun k a => bnd (mnxL mx k vs a) (fun v => some (v, h))) = some (v, h') from h2)
    obtain ⟨v1, h4, h5⟩ := bnd_eq.1 h3
    cases h5
    obtain ⟨n, rfl, h6⟩ := mnxL_run (p := p) (w := w) mx k r2 h4
    have r1' : y = .int k m := r1
    subst r1'
    refine Exec.val (v' := .int k n) (w' := w) ?_ (Res.same sim rfl)
    subst hb
    cases mx
    · simp only [Bool.false_eq_true, if_false] at h6
      simp [execOp, ho, resolve, invoke, builtin, Builtin.min_, hws, h6]
    · simp only [if_true] at h6
      simp [execOp, ho, resolve, invoke, builtin, Builtin.max_, hws, h6]

def okOO : Option Operand → Option Opd → Bool
  | none, none => true
  | some y, some x => okO y x
  | _, _ => false
/-- a bound that is given: what it comes to -/
theorem bound_some {β : Type} {x : Option Opd} {y : Option Operand} (hs : RelS φ s a.tmps) (hy : okOO y x = true) {d m : Nat} {f : Nat → Option β} {r : β} (hx : bound s x d m f = some r) :
    ∃ n, f n = some r ∧ ((x = none ∧ y = none ∧ n = d) ∨ (x.isSome = true ∧ n ≤ m ∧ ∃ y' k, y = some y' ∧ a.eval y' = .int k (Int.ofNat n))) := by
  cases x with
  | none => cases y with
    | none => exact ⟨d, hx, .inl ⟨rfl, rfl, rfl⟩⟩
    | some y => cases hy
  | some x => cases y with
    | none => cases hy
    | some y =>
      obtain ⟨v, h1, h2⟩ := bnd_eq.1 (show bnd (opd s x) (fun v => onNat v (fun n => guardB (Nat.ble n m) (f n))) = some r from hx)
      obtain ⟨k, n, rfl, h3⟩ := onNat_eq.1 h2
      obtain ⟨h4, h5⟩ := guardB_eq.1 h3
      exact ⟨n, h5, .inr ⟨rfl, by simpa using h4, y, k, rfl, okO_rel hs hy h1⟩⟩
theorem run_bound {k : IntKind} {n m : Nat} (hn : n ≤ m) (code : BoundsCode) : (Instr.sliceBound (.int k (Int.ofNat n)) m code).run p w = .ok n w := by
  simp [Instr.sliceBound, asIntOf, hn]
/-- the bounds of a slice expression over cap' cells, of which cap are known -/
theorem run_bounds {isS : Bool} {lo hi mx : Option Opd} {ylo yhi ymx : Option Operand} (hs : RelS φ s a.tmps) (h1 : okOO ylo lo = true) (h2 : okOO yhi hi = true) (h3 : okOO ymx mx = true) {len cap cap' : Nat} (hc : cap ≤ cap')
    (hm : (hi.isSome || !mx.isSome) = true) {β : Type} {f : Nat → Nat → Nat → Option β} {r : β} (hx : bound s mx cap cap (fun m => bound s hi len m (fun hh => bound s lo 0 hh (fun l => f l hh m))) = some r) :
    ∃ l hh m m', f l hh m = some r ∧ (Instr.sliceBounds isS len cap' (ylo.map a.eval) (yhi.map a.eval) (ymx.map a.eval)).run p w = .ok (l, hh, m') w ∧ m ≤ m' ∧ (mx.isSome = true → m' = m) ∧ (mx = none → m = cap ∧ m' = cap') ∧ m ≤ cap ∧
      (lo = none → l = 0) ∧ (lo.isSome = true → l ≤ hh) ∧ (hi = none → hh = len) ∧ (hi.isSome = true → hh ≤ m) := by
  obtain ⟨m, hx1, km⟩ := bound_some hs h3 hx
  obtain ⟨hh, hx2, kh⟩ := bound_some hs h2 hx1
  obtain ⟨l, hx3, kl⟩ := bound_some hs h1 hx2
  clear hx hx1 hx2
  rcases km with ⟨rfl, rfl, rfl⟩ | ⟨hm1, hm2, y3, k3, rfl, e3⟩ <;> rcases kh with ⟨rfl, rfl, rfl⟩ | ⟨hh1, hh2, y2, k2, rfl, e2⟩ <;> rcases kl with ⟨rfl, rfl, rfl⟩ | ⟨hl1, hl2, y1, k1, rfl, e1⟩
  · exact ⟨0, _, _, cap', hx3, by simp [Instr.sliceBounds], hc, by simp, fun _ => ⟨rfl, rfl⟩, Nat.le_refl _, by simp, by simp, by simp, by simp⟩
  · exact ⟨l, _, _, cap', hx3, by simp only [Instr.sliceBounds, Option.map_some, Option.map_none, Sem.run_bind, Sem.run_pure, Result.andThen_ok, e1, run_bound hl2], hc, by simp, fun _ => ⟨rfl, rfl⟩, Nat.le_refl _, fun e => (by rw [e] at hl1; cases hl1), fun _ => hl2, by simp, by simp⟩
  · exact ⟨0, hh, _, cap', hx3, by simp only [Instr.sliceBounds, Option.map_some, Option.map_none, Sem.run_bind, Sem.run_pure, Result.andThen_ok, e2, run_bound (Nat.le_trans hh2 hc)], hc, by simp, fun _ => ⟨rfl, rfl⟩, Nat.le_refl _, by simp, by simp, fun e => (by rw [e] at hh1; cases hh1), fun _ => hh2⟩
  · exact ⟨l, hh, _, cap', hx3, by simp only [Instr.sliceBounds, Option.map_some, Option.map_none, Sem.run_bind, Sem.run_pure, Result.andThen_ok, e2, e1, run_bound (Nat.le_trans hh2 hc), run_bound hl2], hc, by simp, fun _ => ⟨rfl, rfl⟩, Nat.le_refl _, fun e => (by rw [e] at hl1; cases hl1), fun _ => hl2, fun e => (by rw [e] at hh1; cases hh1), fun _ => hh2⟩
  · simp [hm1] at hm
  · simp [hm1] at hm
  · exact ⟨0, hh, m, m, hx3, by simp only [Instr.sliceBounds, Option.map_some, Option.map_none, Sem.run_bind, Sem.run_pure, Result.andThen_ok, e3, e2, run_bound (Nat.le_trans hm2 hc), run_bound hh2], Nat.le_refl _, fun _ => rfl, fun e => (by rw [e] at hm1; cases hm1), hm2, by simp, by simp, fun e => (by rw [e] at hh1; cases hh1), fun _ => hh2⟩
  · exact ⟨l, hh, m, m, hx3, by simp only [Instr.sliceBounds, Option.map_some, Option.map_none, Sem.run_bind, Sem.run_pure, Result.andThen_ok, e3, e2, e1, run_bound (Nat.le_trans hm2 hc), run_bound hh2, run_bound hl2], Nat.le_refl _, fun _ => rfl, fun e => (by rw [e] at hm1; cases hm1), hm2, fun e => (by rw [e] at hl1; cases hl1), fun _ => hl2, fun e => (by rw [e] at hh1; cases hh1), fun _ => hh2⟩
theorem op_slc {t : TypeId} {y : Operand} {ylo yhi ymx : Option Operand} {z : Nat} {x : Opd} {lo hi mx : Option Opd} (ho : o.op = .slice t y ylo yhi ymx) (hy : okO y x = true) (h1 : okOO ylo lo = true) (h2 : okOO yhi hi = true)
    (h3 : okOO ymx mx = true) (hz : okIad p t z = true) (hs : RelS φ s a.tmps) (sim : Sim cr B0 φ h w) (hx : aSlc s h z x lo hi mx = some (v, h')) : Exec p a.eval o w (Res cr B0 φ h w v h') := by
  obtain ⟨v1, g1, g2⟩ := bnd_eq.1 hx
  obtain ⟨x', rfl, g3⟩ := onW_eq.1 g2
  have hr := okO_rel hs hy g1
  obtain ⟨e, he, hsz⟩ := okIad_eq hz
  cases x' <;> simp only [slcW, reduceCtorEq] at g3
  case nils =>
    obtain ⟨g4, g5⟩ := guardB_eq.1 g3
    obtain ⟨l, hh, m, m', k1, k2, k3, k4, k5, k6, k7, k8, k9, k10⟩ := run_bounds (p := p) (w := w) (isS := true) hs h1 h2 h3 (len := 0) (cap := 0) (cap' := 0) (Nat.le_refl _) g4 (f := fun _ _ _ => some (V.w .nils, h)) g5
    cases k1
    have hr' : a.eval y = .slice none 0 0 := hr
    have hm' : m' = 0 := by
      cases mx with
      | none => exact (k5 rfl).2
      | some _ => have := k4 rfl; omega
    have hhh : hh = 0 := by
      cases hi with
      | none => exact k9 rfl
      | some _ => have := k10 rfl; omega
    have hl : l = 0 := by
      cases lo with
      | none => exact k7 rfl
      | some _ => have := k8 rfl; omega
    subst hm' hhh hl
    refine Exec.val (v' := .slice none 0 0) (w' := w) ?_ (Res.same sim rfl)
    simp [execOp, ho, Instr.sliceAt, Instr.slice, run_underlying he, hr', k2, run_size hsz]
  case sl b off z' len cap ex =>
    obtain ⟨g4, g5⟩ := guardB_eq.1 g3
    obtain ⟨g6, g7⟩ := guardB_eq.1 g5
    have hz' : z = z' := by simpa using g4
    subst hz'
    obtain ⟨c, base, lim, off1, cap', q1, q2, q3, q4, q5, q6, q7⟩ := hr
    obtain ⟨l, hh, m, m', k1, k2, k3, k4, k5, k6, k7, k8, k9, k10⟩ := run_bounds (p := p) (w := w) (isS := true) hs h1 h2 h3 (len := len) (cap := cap) (cap' := cap') q5 g6 (f := fun l hh m => slcS h b off z l hh m (mx.isSome || ex)) g7
    simp only [slcS, natK_eq, boolK_eq] at k1
    cases k1
    have hlh : l ≤ hh := by
      cases lo with
      | none => rw [k7 rfl]; omega
      | some _ => exact k8 rfl
    have hhm : hh ≤ m := by
      cases hi with
      | none =>
        rw [k9 rfl]
        cases mx with
        | none => rw [(k5 rfl).1]; exact q4
        | some _ => simp at g6
      | some _ => exact k10 rfl
    have hmc : m' ≤ cap' := by
      cases mx with
      | none => rw [(k5 rfl).2]; omega
      | some _ => rw [k4 rfl]; omega
    refine Exec.val (v' := .slice (some ⟨c, if m' = l then off1 else off1 + l * z, none⟩) (hh - l) (m' - l)) (w' := w) ?_ (Res.same sim ⟨c, base, lim, _, m' - l, q1, rfl, ?_, ?_, ?_, ?_, ?_⟩)
    · simp only [execOp, ho, Instr.sliceAt, Instr.slice, Sem.run_bind, run_underlying he, Result.andThen_ok, q2, k2, run_size hsz, Option.map_some, addr_add, Sem.run_pure]
      by_cases hm : m' = l <;> simp [hm]
    · intro hne
      rw [if_neg (by omega), q3 (by omega)]
      simp [Nat.add_assoc]
    · simp; omega
    · simp; omega
    · intro hex
      cases mx with
      | none =>
        simp at hex
        obtain ⟨e1, e2⟩ := k5 rfl
        rw [e2, q6 hex, e1]; rfl
      | some _ => rw [k4 rfl]; rfl
    · intro L hL
      have := q7 L hL
      have h1 : l * z + (m' - l) * z = m' * z := by rw [← Nat.add_mul]; congr 1; omega
      have h2 : m' * z ≤ cap' * z := Nat.mul_le_mul_right _ hmc
      simp only [Nat.add_eq, Nat.mul_eq]
      omega
theorem op_sst {t : TypeId} {y : Operand} {ylo yhi : Option Operand} {x : Opd} {lo hi : Option Opd} (ho : o.op = .slice t y ylo yhi none) (hy : okO y x = true) (h1 : okOO ylo lo = true) (h2 : okOO yhi hi = true)
    (hz : isStrT p t = true) (hs : RelS φ s a.tmps) (sim : Sim cr B0 φ h w) (hx : aSst s h x lo hi = some (v, h')) : Exec p a.eval o w (Res cr B0 φ h w v h') := by
  obtain ⟨v1, g1, g2⟩ := bnd_eq.1 hx
  obtain ⟨t', rfl, g3⟩ := wStr_eq.1 g2
  have hr : a.eval y = .string ⟨t'.toArray⟩ := okO_rel hs hy g1
  rw [lenX_eq] at g3
  obtain ⟨l, hh, m, m', k1, k2, k3, k4, k5, k6, k7, k8, k9, k10⟩ := run_bounds (p := p) (w := w) (isS := false) (mx := none) (ymx := none) hs h1 h2 rfl (len := t'.length) (cap := t'.length) (cap' := t'.length) (Nat.le_refl _) (by simp)
    (f := fun l hh _ => bnd (subS t' l hh) (fun v => some (v, h))) g3
  obtain ⟨v2, k11, k12⟩ := bnd_eq.1 k1
  cases k12
  obtain ⟨l', k13, k14⟩ := bnd_eq.1 (show bnd (takeX (Nat.sub hh l) (dropX l t')) (fun l => some (V.w (.str l))) = some v from k11)
  cases k14
  rw [dropX_eq] at k13
  obtain ⟨k15, rfl⟩ := takeX_eq.1 k13
  refine Exec.val (v' := .string ((⟨t'.toArray⟩ : ByteArray).extract l hh)) (w' := w) ?_ (Res.same sim ?_)
  · have hsize : (⟨t'.toArray⟩ : ByteArray).size = t'.length := by simp [ByteArray.size]
    simp only [execOp, ho, Instr.sliceAt, Instr.slice, Sem.run_bind, run_underlying (isStrT_eq hz), Result.andThen_ok, hr, Option.map_none, Option.isSome_none, Bool.false_eq_true, if_false, Sem.run_pure, hsize]
    simp only [Option.map_none] at k2
    rw [k2]
    simp
  · show RelW φ (.str ((t'.drop l).take (Nat.sub hh l))) _
    simp only [RelW]
    congr 1
    apply ByteArray.ext
    apply Array.ext'
    simp [List.extract]
def okMkm (p : Program) (t : TypeId) (r : Option Operand) : Bool := match r with | none => true | some (.const (.int _ _)) => (match p.underlying t with | some (.map _ _) => true | _ => false) | _ => false
theorem op_mkm {t : TypeId} {r : Option Operand} (ho : o.op = .makeMap t r) (hr : okMkm p t r = true) (sim : Sim cr B0 φ h w) (hx : aMkm h = some (v, h')) :
    Exec p a.eval o w (Res cr B0 φ h w v h') := by
  rw [aMkm, H.new_eq] at hx
  cases hx
  obtain ⟨s1, e1⟩ := sim.alloc (.map [] 0) (.map #[] 0) (.obj w.heap.size) rfl ⟨#[], heap_alloc_new w _, by simp [RelL]⟩
  refine Exec.val (v' := .map (some w.heap.size)) (w' := w.alloc (.map #[] 0)) ?_ ⟨_, s1, e1, ⟨_, Phi.upd_same _ _ _, rfl⟩⟩
  unfold okMkm at hr
  split at hr
  · simp [execOp, ho, Instr.makeMap]
  · split at hr
    · rename_i k e hu
      simp [execOp, ho, Instr.makeMap, Act.eval, run_underlying hu, asInt, asIntOf]
    · cases hr
  · cases hr
/-- a closure -/
theorem op_mkf {f : FuncId} {first caps : Array Operand} {g : P} {ys xs : List Opd} (ho : o.op = .makeFunc (.func f) first caps) (hf : g.nat = f) (hfi : okOL first.toList ys = true) (hy : okOL caps.toList xs = true) (hs : RelS φ s a.tmps) (sim : Sim cr B0 φ h w)
    (hx : aMkf s h g ys xs = some (v, h')) : Exec p a.eval o w (Res cr B0 φ h w v h') := by
  obtain ⟨fs, h0, h00⟩ := bnd_eq.1 hx
  obtain ⟨us, h1, h2⟩ := bnd_eq.1 h00
  rw [H.new_eq] at h2
  cases h2
  have hr0 := opdsU_rel hs hfi h0
  have hr := opdsU_rel hs hy h1
  let frr := first.map a.eval
  let arr := caps.map a.eval
  have hr0' : RelL (RelU φ) fs frr.toList := by simpa [frr] using hr0
  have hr' : RelL (RelU φ) us arr.toList := by simpa [arr] using hr
  have s1 := sim.adopt (.caps fs us) (.caps frr arr) (fun c e => by cases e) ⟨hr0'.mono fun _ _ => RelU.mono (sim.le_upd _), hr'.mono fun _ _ => RelU.mono (sim.le_upd _)⟩
  have e1 := Ext.adopt sim (.caps fs us) (.caps frr arr) (fun c e => by cases e)
  refine Exec.val (v' := .func (.func f) frr arr) (w' := w) ?_ ⟨_, s1, e1, ⟨frr, arr, Phi.upd_same _ _ _, by rw [hf]⟩⟩
  simp [execOp, ho, Instr.makeFunc, frr, arr]
theorem flat_at {α : Type} (l : List α) : ∀ (c j : Nat), (List.replicate c l).flatten[j]? = if j < c * l.length then l[j % l.length]? else none
  | 0, j => by simp
  | c + 1, j => by
    rw [List.replicate_succ, List.flatten_cons]
    rcases Nat.lt_or_ge j l.length with h | h
    · rw [List.getElem?_append_left h, Nat.mod_eq_of_lt h, if_pos (by rw [Nat.succ_mul]; omega)]
    · rw [List.getElem?_append_right h, flat_at l c (j - l.length), ← Nat.mod_eq_sub_mod h, Nat.succ_mul]
      by_cases hj : j - l.length < c * l.length
      · rw [if_pos hj, if_pos (by omega)]
      · rw [if_neg hj, if_neg (by omega)]
theorem made_list (z : Array Value) (c : Nat) : (madeCells z (c * z.size)).toList = (List.replicate c z.toList).flatten := by
  apply List.ext_getElem?
  intro j
  rw [flat_at]
  simp only [madeCells, Array.toList_map, Array.toList_range, List.getElem?_map, Array.length_toList]
  by_cases hj : j < c * z.size
  · have hz : 0 < z.size := by
      rcases Nat.eq_zero_or_pos z.size with e | e
      · rw [e] at hj; omega
      · exact e
    have hm := Nat.mod_lt j hz
    simp [hj, List.getElem?_range hj, Array.getElem!_eq_getD, Array.getD_eq_getD_getElem?, Array.getElem?_eq_getElem hm, hm]
  · simp [hj]
theorem RelL.flat {α β : Type} {R : α → β → Prop} {l : List α} {m : List β} (h : RelL R l m) : ∀ c, RelL R (List.replicate c l).flatten (List.replicate c m).flatten
  | 0 => trivial
  | c + 1 => by rw [List.replicate_succ, List.replicate_succ, List.flatten_cons, List.flatten_cons]; exact h.append (h.flat c)
def okMks (p : Program) (t : TypeId) (z bytes : Nat) (zc : List W) : Bool :=
  match sliceOf p t with
  | some e => sizeIs p e z && zeroCellsIs p e zc && Nat.beq zc.length z && (match p.info? e with | some i => Nat.beq i.bytes bytes | none => false) && Nat.blt 0 bytes
  | none => false
theorem op_mks {t : TypeId} {yl yc : Operand} {T z bytes : Nat} {zc : List W} {x1 x2 : Opd} (ho : o.op = .makeSlice t yl yc) (hT : elemIs p t T = true) (h1 : okO yl x1 = true) (h2 : okO yc x2 = true) (hk : okMks p t z bytes zc = true) (hs : RelS φ s a.tmps) (sim : Sim cr B0 φ h w)
    (hx : aMks s h T z bytes zc x1 x2 = some (v, h')) : Exec p a.eval o w (Res cr B0 φ h w v h') := by
  obtain ⟨v1, g1, g2⟩ := bnd_eq.1 hx
  obtain ⟨k, l, rfl, g3⟩ := onNat_eq.1 g2
  obtain ⟨v2, g4, g5⟩ := bnd_eq.1 g3
  obtain ⟨k', c, rfl, g6⟩ := onNat_eq.1 g5
  obtain ⟨g7, g8⟩ := guardB_eq.1 g6
  obtain ⟨g9, g10⟩ := guardB_eq.1 g8
  obtain ⟨cs, g11, g12⟩ := bnd_eq.1 g10
  rw [H.new_eq] at g12
  cases g12
  rw [reps_eq] at g11
  cases g11
  have e1 : a.eval yl = .int k (Int.ofNat l) := okO_rel hs h1 g1
  have e2 : a.eval yc = .int k' (Int.ofNat c) := okO_rel hs h2 g4
  have hlc : l ≤ c := by simpa using g7
  have hcb : c * bytes ≤ 140737488355328 := by simpa [mulLe, roomB] using g9
  unfold okMks at hk
  split at hk
  · rename_i e he
    have he := sliceOf_eq he
    have eT := elemIs_eq hT he
    simp only [Bool.and_eq_true] at hk
    obtain ⟨⟨⟨⟨hsz, hzero⟩, hzl⟩, hb⟩, hb0⟩ := hk
    have hb0 : 0 < bytes := by simpa [Nat.blt_eq] using hb0
    have hzl : zc.length = z := by simpa using hzl
    unfold zeroCellsIs at hzero
    unfold sizeIs at hsz
    cases hi : p.info? e with
    | none => rw [hi] at hb; cases hb
    | some i =>
      rw [hi] at hb hzero hsz
      have hb : i.bytes = bytes := by simpa using hb
      have hsz : i.size = z := by simpa using hsz
      cases hz : i.zero with
      | none => simp [hz] at hzero
      | some z' =>
        have hzero : okWL z'.cells.toList zc = true := by simpa [hz] using hzero
        have q2 : RelL (RelW φ) zc z'.cells.toList := okWL_rel φ hzero
        have hzz : zc.length = z'.cells.size := by rw [← Array.length_toList]; exact q2.length
        have hc48 : c ≤ 140737488355328 := Nat.le_trans (Nat.le_mul_of_pos_right _ hb0) hcb
        have harr : RelL (RelW φ) (List.replicate c zc).flatten (madeCells z'.cells (c * z'.cells.size)).toList := by
          rw [made_list]; exact q2.flat c
        have hrun := run_make (P := p) w t e i z' he hi hz k k' (Int.ofNat l) (Int.ofNat c) (Int.natCast_nonneg _) (Int.ofNat_le.2 hlc) (by
          rw [hb]
          show (bytes : Int) * (c : Int) ≤ _
          rw [← Int.natCast_mul, Nat.mul_comm]; omega) (by show (c : Int) ≤ _; omega)
        have hn : (Int.ofNat c).toNat * i.size = c * z'.cells.size := by rw [hsz, ← hzl, hzz]; rfl
        rw [hn] at hrun
        obtain ⟨s1, x1⟩ := sim.newRow T e (by omega) harr
        refine Exec.val (v' := .slice (some ⟨w.heap.size, 0, none⟩) l c) (w' := w.alloc (.cells (madeCells z'.cells (c * z'.cells.size)) e)) ?_ ⟨_, s1, x1, ⟨_, _, _, _, c, Phi.upd_same _ _ _, rfl, fun _ => rfl, hlc, Nat.le_refl _, fun _ => rfl, fun L hL => ?_⟩⟩
        · simp only [execOp, ho, e1, e2, Sem.run_bind, hrun, Result.andThen_ok, Sem.run_pure]
          rfl
        · cases hL; rw [size_madeCells, ← hzz, hzl]; omega
  · cases hk
end
end Go.Am
