import Derived.Test.YtlkhoeghlihdlaaGreatAmFrm
import Derived.Maps.RangeRun
import Derived.Scope
namespace Go.Am
set_option autoImplicit false
set_option linter.unusedSimpArgs false
set_option linter.unusedVariables false
open Go.ChangeMaps (setBlock)
section
variable {φ φ' : Phi}
theorem RelW.back (hle : Le φ φ') : ∀ {x : W} {v0 v : Value}, RelW φ x v0 → RelW φ' x v → RelW φ x v
  | .int _ _, _, _, _, h | .bool _, _, _, _, h | .str _, _, _, _, h | .nilp, _, _, _, h | .nils, _, _, _, h | .nilm, _, _, _, h | .nilf, _, _, _, h | .fnc _, _, _, _, h | .nili, _, _, _, h => h
  | .ptr _ _, _, _, ⟨c, b, l, e1, _⟩, ⟨c', b', l', e2, e3⟩ => by
    have := hle _ _ e1; rw [e2] at this; cases this; exact ⟨_, _, _, e1, e3⟩
  | .sl _ _ _ _ _ _, _, _, ⟨c, b, l, _, _, e1, _⟩, ⟨c', b', l', o, k, e2, e3⟩ => by
    have := hle _ _ e1; rw [e2] at this; cases this; exact ⟨_, _, _, _, _, e1, e3⟩
  | .map _, _, _, ⟨c, e1, _⟩, ⟨c', e2, e3⟩ => by
    have := hle _ _ e1; rw [e2] at this; cases this; exact ⟨_, e1, e3⟩
  | .fn _ _, _, _, ⟨f, a, e1, _⟩, ⟨f', a', e2, e3⟩ => by
    have := hle _ _ e1; rw [e2] at this; cases this; exact ⟨_, _, e1, e3⟩
  | .yld _, _, _, ⟨c, e1, _⟩, ⟨c', e2, e3⟩ => by
    have := hle _ _ e1; rw [e2] at this; cases this; exact ⟨_, e1, e3⟩
  | .it _, _, _, ⟨c, e1, _⟩, ⟨c', e2, e3⟩ => by
    have := hle _ _ e1; rw [e2] at this; cases this; exact ⟨_, e1, e3⟩
theorem RelL.back {α β : Type} {R R' : α → β → Prop} (h : ∀ a b b', R a b → R' a b' → R a b') : ∀ {l : List α} {m m' : List β}, RelL R l m → RelL R' l m' → RelL R l m'
  | [], [], [], _, _ => trivial
  | _ :: _, _ :: _, _ :: _, ⟨h1, h2⟩, ⟨k1, k2⟩ => ⟨h _ _ _ h1 k1, RelL.back h h2 k2⟩
theorem RelU.back (hle : Le φ φ') : ∀ {x : U} {v0 v : Value}, RelU φ x v0 → RelU φ' x v → RelU φ x v
  | .w _, _, _, h0, h => RelW.back hle (φ' := φ') h0 h
  | .a _, _, _, ⟨_, _, r0⟩, ⟨arr, e, r1⟩ => ⟨arr, e, RelL.back (R := RelW φ) (R' := RelW φ') (fun _ _ _ h1 h2 => RelW.back hle h1 h2) r0 r1⟩
theorem RelV.back (hle : Le φ φ') : ∀ {x : V} {v0 v : Value}, RelV φ x v0 → RelV φ' x v → RelV φ x v
  | .w _, _, _, h0, h => RelW.back hle (φ' := φ') h0 h
  | .a _, _, _, ⟨_, _, r0⟩, ⟨arr, e, r1⟩ => ⟨arr, e, RelL.back (R := RelW φ) (R' := RelW φ') (fun _ _ _ h1 h2 => RelW.back hle h1 h2) r0 r1⟩
  | .t _, _, _, ⟨_, _, r0⟩, ⟨arr, e, r1⟩ => ⟨arr, e, RelL.back (R := RelU φ) (R' := RelU φ') (fun _ _ _ h1 h2 => RelU.back hle h1 h2) r0 r1⟩
end
theorem eraL_get : ∀ {ids : List P} {s t : S}, eraL ids s = some t → ∀ p, t.get p = if p ∈ ids then none else s.get p
  | [], s, t, h, p => by cases h; simp
  | q :: ids, s, t, h, p => by
    have h' : bnd (s.set none q) (eraL ids) = some t := h
    rw [Tr.set_eq, bnd_some] at h'
    rw [eraL_get h' p, Tr.get_put]
    by_cases h1 : p ∈ ids
    · simp [h1]
    · by_cases h2 : p = q
      · subst h2; simp
      · simp [h1, h2]
theorem memP_eq {x : P} : ∀ {ys : List P}, memP x ys = true → x ∈ ys
  | [], h => by cases h
  | y :: ys, h => by
    have h' : Bool.rec (motive := fun _ => Bool) (memP x ys) true (decide (x = y)) = true := h
    cases hd : decide (x = y) with
    | true => have := of_decide_eq_true hd; subst this; simp
    | false => rw [hd] at h'; exact List.mem_cons_of_mem _ (memP_eq h')
theorem subP_eq {ys : List P} : ∀ {xs : List P}, subP xs ys = true → ∀ x ∈ xs, x ∈ ys
  | [], _, x, hx => by cases hx
  | y :: xs, h, x, hx => by
    have h' : Bool.rec (motive := fun _ => Bool) false (subP xs ys) (memP y ys) = true := h
    cases hm : memP y ys with
    | false => rw [hm] at h'; cases h'
    | true =>
      rw [hm] at h'
      rcases List.mem_cons.1 hx with rfl | hx
      · exact memP_eq hm
      · exact subP_eq h' x hx
theorem allE_eq {f : E → Bool} : ∀ {es : List E}, allE f es = true → ∀ e ∈ es, f e = true
  | [], _, e, he => by cases he
  | x :: es, h, e, he => by
    have h' : Bool.rec (motive := fun _ => Bool) false (allE f es) (f x) = true := h
    cases hm : f x with
    | false => rw [hm] at h'; cases h'
    | true =>
      rw [hm] at h'
      rcases List.mem_cons.1 he with rfl | he
      · exact hm
      · exact allE_eq h' e he
theorem nodupB_eq : ∀ {es : List E}, nodupB es = true → (es.map E.born).Nodup
  | [], _ => List.nodup_nil
  | x :: es, h => by
    have h' : Bool.rec (motive := fun _ => Bool) false (nodupB es) (freshB x.born es) = true := h
    cases hm : freshB x.born es with
    | false => rw [hm] at h'; cases h'
    | true =>
      rw [hm] at h'
      refine List.nodup_cons.2 ⟨fun hin => ?_, nodupB_eq h'⟩
      obtain ⟨e, he, e1⟩ := List.mem_map.1 hin
      have := allE_eq hm e he
      rw [e1] at this
      simp at this
section
variable {cr : CR} {B B0 : Nat} {φ φ' : Phi} {h h' : H} {w w' : World} {p : Program} {s s' : S} {a : Act} {ds : List Deferred} {F : Fence} {n N : Nat} {ops : Array Oper} {cl : Call} {o : Oper}

theorem wpIn_of_val {v : Value} (hF : Wide F) (hd : ∀ c, o.op ≠ .defer c) (hr : (execOp a.eval o).run p w = .ok (.value v) w') {next : Act → World → Prop} {Q : Exit → Act → World → Prop} (k : next (a.put o.dst v) w') : o.wpIn F n p a w next Q := by
  refine ⟨fun f _ => hF.fn f, ?_⟩
  rw [Oper.semAt_eq _ _ _ hd, hr]
  exact k
/-- the operations of a region in their order, and others behind them -/
theorem insL_sound' (hF : Wide F) (hcl : CallSound cr p cl) {Q : Exit → Act → World → Prop} {rest : List Nat} : ∀ {l : List I} {os : List Oper} {j : Nat} {φ : Phi} {h h' : H} {w : World} {s s' : S} {a : Act}, okIs p N ops os l = true → (ops.toList.drop j).take l.length = os →
    N ≤ a.tmps.size → RelS φ s a.tmps → Sim cr B0 φ h w → insL cl l s h = some (s', h') →
    (∀ a' w' φ', Sim cr B0 φ' h' w' → Ext φ h w φ' h' w' → RelS φ' s' a'.tmps → N ≤ a'.tmps.size → a'.defers = a.defers → wpOpsIn F n p ops Q rest a' w') →
    wpOpsIn F n p ops Q (List.range' j l.length ++ rest) a w
  | [], os, j, φ, h, h', w, s, s', a, hk, hj, hN, hs, sim, hx, k => by
    cases hx
    exact k a w φ sim (Ext.refl sim) hs hN rfl
  | i :: is, os, j, φ, h, h', w, s, s', a, hk, hj, hN, hs, sim, hx, k => by
    obtain ⟨o, os', rfl, h1, h2⟩ := okIs_cons hk
    obtain ⟨s1, hh1, k1, k2⟩ := bnd2_eq.1 (show bnd2 (ins cl s h i) (insL cl is) = some (s', h') from hx)
    have hoj : ops[j]? = some o := by
      have : ((ops.toList.drop j).take (i :: is).length)[0]? = some o := by rw [hj]; rfl
      rw [List.getElem?_take, if_pos (by simp), List.getElem?_drop, Nat.add_zero, Array.getElem?_toList] at this
      exact this
    have hj' : (ops.toList.drop (j + 1)).take is.length = os' := by
      have : ((ops.toList.drop j).take (is.length + 1)).drop 1 = os' := by rw [show is.length + 1 = (i :: is).length from rfl, hj]; rfl
      rw [← this, List.drop_take, List.drop_drop]
      rfl
    rw [List.length_cons, List.range'_succ, List.cons_append, wpOpsIn_cons]
    unfold wpOpIn
    simp only [hoj]
    refine ins_sound hF hcl h1 hN hs sim k1 fun a' w' φ' s1 e1 r1 n1 d1 => ?_
    refine insL_sound' hF hcl h2 hj' n1 r1 s1 k2 fun a2 w2 φ2 s2 e2 r2 n2 d2 => ?_
    exact k a2 w2 φ2 s2 (e1.trans e2) r2 n2 (d2.trans d1)
/-- a block that nothing alive lies in is written -/
theorem Sim.poke (sm : Sim cr B0 φ h w) {c : Nat} (hz : w'.heap.size = w.heap.size) (hk : ∀ k, k ≠ c → w'.heap[k]? = w.heap[k]?) (hc : ∀ b o i, h.tr.get b = some o → o ≠ .dead → φ b = some i → i.blk ≠ some c) : Sim cr B0 φ h w' where
  fresh := sm.fresh
  dom b i k hb hi := by rw [hz]; exact sm.dom b i k hb hi
  obj b o hb ho := let ⟨i, h1, h2⟩ := sm.obj b o hb ho; ⟨i, h1, h2.mono (Le.refl _) fun k hi => hk k fun e => by subst e; exact hc b o i hb ho h1 hi⟩
  sep := sm.sep
  low := sm.low
  top := by rw [hz]; exact sm.top
theorem Sim.nolog (sm : Sim cr B0 φ h w) {l1 n1 l2 n2 : List P} : Sim cr B0 φ ⟨h.sz, h.tr, l2, n2⟩ w := ⟨sm.fresh, sm.dom, sm.obj, sm.sep, sm.low, sm.top⟩
theorem Marks.back (m : Marks B φ' w ds) (hle : Le φ φ') : Marks B φ w ds := by
  obtain ⟨rs, h1, h2, h3⟩ := m
  exact ⟨rs, h1, h2, fun r hr => ⟨(h3 r hr).1, (h3 r hr).2.1, fun b i hb => (h3 r hr).2.2 b i (hle _ _ hb)⟩⟩
theorem Marks.world (m : Marks B φ w ds) (hk : ∀ r : Nat, w.heap[r]? = some (Obj.deferred (some [])) → w'.heap[r]? = w.heap[r]?) : Marks B φ w' ds := by
  obtain ⟨rs, h1, h2, h3⟩ := m
  exact ⟨rs, h1, h2, fun r hr => ⟨(h3 r hr).1, by rw [hk r (h3 r hr).2.1]; exact (h3 r hr).2.1, (h3 r hr).2.2⟩⟩
theorem okDst_some {d : Option Tmp} {q : P} (h : okDst N d (some q) = true) : d = some q.nat ∧ q.nat < N := by
  unfold okDst at h
  split at h
  · rename_i e; cases e
  · rename_i t q' e
    cases e
    simp only [Bool.and_eq_true] at h
    rw [Nat.beq_eq, Nat.blt_eq] at h
    obtain ⟨h1, h2⟩ := h
    subst h1
    exact ⟨rfl, h2⟩
  · cases h
/-- a slot that is written and that the abstract state does not know -/
theorem RelS.put_none {q : P} {v : Value} (hs : RelS φ s a.tmps) (hq : s.get q = none) : RelS φ s (a.put (some q.nat) v).tmps := fun r u hr => by
  obtain ⟨u', k1, k2⟩ := hs r u hr
  refine ⟨u', ?_, k2⟩
  simp only [Act.put]
  rw [Array.getElem?_setIfInBounds_ne (fun e => by rw [P.nat_inj e, hr] at hq; cases hq)]
  exact k1
theorem put_eval {q : P} {v : Value} (hq : q.nat < a.tmps.size) : (a.put (some q.nat) v).eval (.tmp q.nat) = v := by
  simp [Act.put, Act.eval, hq]
theorem put_eval_ne {q r : P} {v : Value} (hq : q ≠ r) : (a.put (some q.nat) v).eval (.tmp r.nat) = a.eval (.tmp r.nat) := by
  have : q.nat ≠ r.nat := fun e => hq (P.nat_inj e)
  simp [Act.put, Act.eval, Array.getElem?_setIfInBounds_ne this]
end
end Go.Am
namespace Go.Am
set_option autoImplicit false
set_option linter.unusedSimpArgs false
set_option linter.unusedVariables false
open Go.ChangeMaps (setBlock)
section
variable {B B0 : Nat} {φ φ' : Phi} {h h' : H} {w w' : World} {p : Program} {s s' : S} {a : Act} {ds : List Deferred}
  {okD : Array Oper → List I → List (Option (List Nat)) → Bool} {cl : Call} {m : Nat}
theorem okIs_size {N : Nat} {ops : Array Oper} : ∀ {os : List Oper} {is : List I}, okIs p N ops os is = true → os.length = is.length
  | [], [], _ => rfl
  | [], _ :: _, h => by cases h
  | _ :: _, [], h => by cases h
  | o :: os, i :: is, h => by simp only [okIs, Bool.and_eq_true] at h; simp [okIs_size h.2]
theorem setBlock_heap {w1 : World} {r : Nat} {o : Obj} : (setBlock w1 r o).heap.size = w1.heap.size ∧ (∀ k, k ≠ r → (setBlock w1 r o).heap[k]? = w1.heap[k]?) ∧ (r < w1.heap.size → (setBlock w1 r o).heap[r]? = some o) ∧
    (setBlock w1 r o).os = w1.os ∧ (setBlock w1 r o).tape = w1.tape ∧ (setBlock w1 r o).output = w1.output := by
  refine ⟨by simp [setBlock], fun k hk => by simp [setBlock, Array.getElem?_setIfInBounds_ne (Ne.symm hk)], fun hr => by simp [setBlock, hr], rfl, rfl, rfl⟩
theorem sameV_eq {x y : V} (h : sameV x y = true) : y = x := by
  unfold sameV at h
  split at h <;> first | rfl | skip
  · simp at h; rw [h]
  · simp at h; rw [h.1, h.2]
  · cases h
theorem keptB_eq : ∀ {kl : List P} {s t : S}, keptB kl s t = true → ∀ q ∈ kl, ∀ {v : V}, s.get q = some v → t.get q = some v
  | [], s, t, _, q, hq, v, _ => by cases hq
  | p :: kl, s, t, h, q, hq, v, hv => by
    have h' : Bool.rec (motive := fun _ => Bool) false (keptB kl s t) (keptO (s.get p) (t.get p)) = true := h
    cases hk : keptO (s.get p) (t.get p) with
    | false => rw [hk] at h'; cases h'
    | true =>
      rw [hk] at h'
      rcases List.mem_cons.1 hq with rfl | hq
      · rw [hv] at hk
        cases ht : t.get q with
        | none => rw [ht] at hk; cases hk
        | some u => rw [ht] at hk; rw [sameV_eq (show sameV v u = true from hk)]
      · exact keptB_eq h' q hq hv
theorem RelL.at_r {α β : Type} {R : α → β → Prop} : ∀ {l : List α} {m : List β}, RelL R l m → ∀ (j : Nat) (b : β), m[j]? = some b → ∃ a, l[j]? = some a ∧ R a b
  | [], [], _, _, _, h => by simp at h
  | x :: l, y :: m, ⟨h1, _⟩, 0, _, h => by simp at h; subst h; exact ⟨x, by simp, h1⟩
  | x :: l, y :: m, ⟨_, h2⟩, j + 1, b, h => by simpa using RelL.at_r h2 j b (by simpa using h)
theorem relE_born : ∀ {es : List E} {es' : List MapEntry}, RelL (RelE φ) es es' → es.map E.born = es'.map (·.born)
  | [], [], _ => rfl
  | _ :: _, _ :: _, ⟨h1, h2⟩ => by simp [h1.2.2, relE_born h2]
theorem run_mfor (hcl : CallSound (crOf okD p) p cl) (ih : RunOk (crOf okD p) p okD cl m) {F : Fence} {n N B0 Bm : Nat} {rd : Bool} {ra rn re : Nat} {opsA opsN opsE : Array Oper} {t : Tmp} {id b : Nat} {R : Code}
    {pre : List I} {mo : Opd} {it nx ok te : P} {sl kl : List P} {l : List I} {c : C} {x : X}
    (hF : Wide F) (hx : cMfor cl (runC cl m) s h pre mo it te sl kl b l c = some (x, s', h')) (hk : okMf p N opsA opsN opsE t pre mo it nx ok te sl kl l c = true) (hR : okC okD p N rd R c = true)
    (hr : rd = false → F.round = none) (sim : Sim (crOf okD p) B0 φ h w) (hs : RelS φ s a.tmps) (hN : N ≤ a.tmps.size) (hm : Marks Bm φ w a.defers) (hB : Bm ≤ w.heap.size) :
    (Code.seq (.region ra opsA false) (.block id (.loop (.seq (.region rn opsN false) (.seq (.cond (.tmp t) .skip (.exit id)) (.block b (.seq (.region re opsE false) R))))))).wpIn F n p (Post (crOf okD p) N B0 Bm φ h w x s' h') a w := by
  simp only [okMf, Bool.and_eq_true] at hk
  obtain ⟨⟨⟨⟨⟨kA1, kA2⟩, kA3⟩, ⟨kN, kT⟩⟩, kE⟩, ⟨⟨⟨⟨⟨kS1, kS2⟩, kS3⟩, kS4⟩, kS5⟩, kS6⟩⟩ := hk
  have kS1 := inS_mem kS1
  have kS2 := inS_mem kS2
  have kS3 := inS_mem kS3
  have hit' : it ∉ sl ++ kl := fun hin => by
    have : inS (sl ++ kl) (some it) = true := List.any_eq_true.2 ⟨it, hin, by simp⟩
    rw [this] at kS6; cases kS6
  have hit : it ∉ sl := fun h => hit' (List.mem_append_left _ h)
  rw [Nat.beq_eq] at kA2 kT
  subst kT
  -- the iterator
  split at kA3
  case h_2 => cases kA3
  rename_i oR hoR
  simp only [Bool.and_eq_true, Option.isNone_iff_eq_none] at kA3
  obtain ⟨⟨gR, dR⟩, opR⟩ := kA3
  split at opR
  case h_2 => cases opR
  rename_i T y eR
  simp only [Bool.and_eq_true] at opR
  obtain ⟨oy, tyR⟩ := opR
  split at tyR
  case h_2 => cases tyR
  rename_i tk tv htT
  obtain ⟨dR1, dR2⟩ := okDst_some dR
  -- the step
  split at kN
  case h_2 => cases kN
  rename_i o1 o2 hoN
  simp only [Bool.and_eq_true, Option.isNone_iff_eq_none] at kN
  obtain ⟨⟨⟨⟨⟨gN1, gN2⟩, dN1⟩, dN2⟩, opN1⟩, opN2⟩ := kN
  split at opN1
  case h_2 => cases opN1
  rename_i a1' e1
  split at opN2
  case h_2 => cases opN2
  rename_i a2' e2
  rw [Nat.beq_eq] at opN1 opN2
  subst opN1 opN2
  obtain ⟨dN1a, dN1b⟩ := okDst_some dN1
  obtain ⟨dN2a, dN2b⟩ := okDst_some dN2
  have hoN1 : opsN[0]? = some o1 := by rw [← Array.getElem?_toList, hoN]; rfl
  have hoN2 : opsN[1]? = some o2 := by rw [← Array.getElem?_toList, hoN]; rfl
  have hNs : opsN.size = 2 := by rw [← Array.length_toList, hoN]; rfl
  -- the entry
  split at kE
  case h_2 => cases kE
  rename_i oE restE hoE
  simp only [Bool.and_eq_true, Option.isNone_iff_eq_none] at kE
  obtain ⟨⟨⟨gE, dE⟩, opE⟩, kE4⟩ := kE
  split at opE
  case h_2 => cases opE
  rename_i a3' eE
  rw [Nat.beq_eq] at opE
  subst opE
  obtain ⟨dE1, dE2⟩ := okDst_some dE
  have hoE0 : opsE[0]? = some oE := by rw [← Array.getElem?_toList, hoE]; rfl
  have hEs : opsE.size = l.length + 1 := by rw [← Array.length_toList, hoE, List.length_cons, okIs_size kE4]
  -- the abstract run
  obtain ⟨s1, h1, g1, g2⟩ := bnd2_eq.1 hx
  obtain ⟨mv, g3, g4⟩ := bnd_eq.1 g2
  obtain ⟨mw, rfl, g5⟩ := onW_eq.1 g4
  refine wpIn_seq (wpIn_region ?_)
  have hrA : List.range opsA.size = List.range' 0 pre.length ++ [pre.length] := by
    rw [List.range_eq_range', kA2, List.range'_concat]; simp
  rw [hrA]
  refine insL_sound' hF hcl kA1 (by simp) hN hs sim g1 fun a1 w1 φ1 sm1 x1 r1 n1 d1 => ?_
  rw [wpOpsIn_cons]
  unfold wpOpIn
  simp only [hoR, Region.wanted, gR, if_true]
  have r3 := okO_rel r1 oy g3
  let ci := w1.heap.size
  have common : ∃ (es : List E) (ob : Obj), (Instr.range T (a1.eval y)).run p w1 = .ok (.pointer (some ⟨ci, 0, none⟩)) (w1.alloc ob) ∧
      (h1.new .dead (fun q h => bnd (eraL sl s1) (fun s => bnd (s.set (some (.w (.it q))) it) (fun s => guardB (allE (rndE cl (runC cl m) te kl b l c s h) es) (some (X.nrm, s, h))))) = some (x, s', h')) ∧
      ((es = [] ∧ ob = .mapIter none 0 #[] 0) ∨ ∃ c0 es' clk, w1.heap[c0]? = some (.map es' clk) ∧ RelL (RelE φ1) es es'.toList ∧ ob = .mapIter (some c0) clk #[] clk ∧ (∀ e ∈ es, e.born < clk) ∧ (es.map E.born).Nodup) := by
    cases mw with
    | nilm =>
      have e3 : a1.eval y = .map none := r3
      exact ⟨[], _, by rw [e3]; exact run_range_nilMap w1 T tk tv htT, g5, .inl ⟨rfl, rfl⟩⟩
    | map r =>
      obtain ⟨c0, k1, k2⟩ := r3
      obtain ⟨es, clk, k3, k4⟩ := atMap_eq.1 (show atMap h1 r _ = some (x, s', h') from g5)
      obtain ⟨k5, k6⟩ := guardB_eq.1 k4
      obtain ⟨k7, k8⟩ := guardB_eq.1 k6
      obtain ⟨i, k9, k10⟩ := sm1.obj r _ k3 (by simp)
      rw [k1] at k9; cases k9
      obtain ⟨es', k11, k12⟩ := k10
      exact ⟨es, _, by rw [k2]; exact run_range_map w1 T tk tv c0 es' clk htT k11, k8, .inr ⟨c0, es', clk, k11, k12, rfl, fun e he => by
        have := allE_eq k5 e he; rwa [Nat.blt_eq] at this, nodupB_eq k7⟩⟩
    | _ => cases g5
  obtain ⟨es, ob, hrun, g6, hmap⟩ := common
  rw [H.new_eq] at g6
  obtain ⟨s1e, g7, g8⟩ := bnd_eq.1 g6
  rw [Tr.set_eq, bnd_some] at g8
  obtain ⟨g9, g10⟩ := guardB_eq.1 g8
  cases g10
  have hget : ∀ q, (Tr.put (some (V.w (.it h1.sz))) it s1e).get q = if q = it then some (V.w (.it h1.sz)) else if q ∈ sl then none else s1.get q := fun q => by
    rw [Tr.get_put, eraL_get g7]
  generalize hs2 : Tr.put (some (V.w (.it h1.sz))) it s1e = s2 at g9 hget
  obtain ⟨sm2, x2⟩ := sm1.alloc' .dead ob (.obj ci) rfl (fun hne => absurd rfl hne)
  generalize hh2 : (⟨h1.sz.next, Tr.put (some .dead) h1.sz h1.tr, h1.log, h1.sz :: h1.nw⟩ : H) = h2 at sm2 x2 g9
  generalize hφ2 : φ1.upd h1.sz (.obj ci) = φ2 at sm2 x2
  have hφit : φ2 h1.sz = some (.obj ci) := by rw [← hφ2, Phi.upd_same]
  have hle12 : Le φ1 φ2 := by rw [← hφ2]; exact sm1.le_upd _
  have hci : (w1.alloc ob).heap[ci]? = some ob := heap_alloc_new w1 ob
  have hnone : ∀ q ∈ sl, s2.get q = none := fun q hq => by rw [hget q, if_neg (fun e => hit (by rw [← e]; exact hq)), if_pos hq]
  have hitv : s2.get it = some (V.w (.it h1.sz)) := by rw [hget it, if_pos rfl]
  -- what is known at the head of each round
  let J : Nat → Act → World → Prop := fun j a' w' => Sim (crOf okD p) B0 φ2 h2 w' ∧ RelS φ2 s2 a'.tmps ∧ N ≤ a'.tmps.size ∧ Marks Bm φ2 w' a'.defers ∧ Ext φ1 h1 w1 φ2 h2 w' ∧
    ((es = [] ∧ w'.heap[ci]? = some (.mapIter none 0 #[] 0)) ∨ ∃ c0 es' clk seen ck, w'.heap[c0]? = some (.map es' clk) ∧ RelL (RelE φ1) es es'.toList ∧ w'.heap[ci]? = some (.mapIter (some c0) clk seen ck) ∧ clk ≤ ck ∧
      (∀ e ∈ es, e.born < clk) ∧ (es.map E.born).Nodup ∧ c0 ≠ ci ∧ (leftOf es' seen).size = j)
  refine wpIn_of_val (v := .pointer (some ⟨ci, 0, none⟩)) (w' := w1.alloc ob) hF (fun c e => by rw [eR] at e; cases e) (by simp only [execOp, eR, Sem.run_bind, hrun, Result.andThen_ok, Sem.run_pure]) ?_
  rw [dR1]
  have hitN : it.nat < a1.tmps.size := Nat.lt_of_lt_of_le dR2 n1
  have rs2 : RelS φ2 s2 (a1.put (some it.nat) (.pointer (some ⟨ci, 0, none⟩))).tmps := fun q v hq => by
    rw [hget q] at hq
    split at hq
    · rename_i e; subst e; cases hq
      exact ⟨.pointer (some ⟨ci, 0, none⟩), by simp [Act.put, Array.getElem?_setIfInBounds, hitN], ci, hφit, rfl⟩
    · split at hq
      · cases hq
      · rename_i e1 e2
        obtain ⟨v', k1, k2⟩ := r1 q v hq
        exact ⟨v', by simp only [Act.put]; rw [Array.getElem?_setIfInBounds_ne (fun e => e1 (P.nat_inj e.symm))]; exact k1, k2.mono hle12⟩
  have hm1 : Marks Bm φ2 (w1.alloc ob) a1.defers := by rw [d1]; exact hm.ext sim (x1.trans x2)
  have hfin : ∀ a' w', Sim (crOf okD p) B0 φ2 h2 w' → RelS φ2 s2 a'.tmps → N ≤ a'.tmps.size → Marks Bm φ2 w' a'.defers → Ext φ1 h1 w1 φ2 h2 w' → Post (crOf okD p) N B0 Bm φ h w .nrm s2 h2 .normal a' w' :=
    fun a' w' q1 q2 q3 q4 q5 => ⟨rfl, φ2, q1, x1.trans q5, q2, q3, q4⟩
  have hJ0 : ∃ j, J j (a1.put (some it.nat) (.pointer (some ⟨ci, 0, none⟩))) (w1.alloc ob) := by
    rcases hmap with ⟨e0, e1'⟩ | ⟨c0, es', clk, k1, k2, k3, k4, k5⟩
    · exact ⟨0, sm2, rs2, by simpa [Act.put] using n1, by simpa [Act.put] using hm1, x2, .inl ⟨e0, by rw [hci, e1']⟩⟩
    · have hlt : c0 < w1.heap.size := (Array.getElem?_eq_some_iff.1 k1).1
      exact ⟨_, sm2, rs2, by simpa [Act.put] using n1, by simpa [Act.put] using hm1, x2, .inr ⟨c0, es', clk, #[], clk, by rw [heap_alloc_old w1 ob hlt]; exact k1, k2, by rw [hci, k3], Nat.le_refl _, k4, k5, Nat.ne_of_lt hlt, rfl⟩⟩
  obtain ⟨j0, hJ0⟩ := hJ0
  show (Code.block id _).wpIn F n p _ _ _
  refine wpIn_block (wpIn_loop_fuel J hJ0 ?_)
  rintro j a3 w3 ⟨q1, q2, q3, q4, q5, q6⟩
  have hptr : a3.eval (.tmp it.nat) = .pointer (some ⟨ci, 0, none⟩) := by
    obtain ⟨v', k1, c', k2, rfl⟩ := q2 it _ hitv
    rw [hφit] at k2; cases k2
    simp [Act.eval, Array.getD_eq_getD_getElem?, k1]
  have hnxN : nx.nat < a3.tmps.size := Nat.lt_of_lt_of_le dN1b q3
  have hokN : ok.nat < a3.tmps.size := Nat.lt_of_lt_of_le dN2b q3
  refine wpIn_seq (wpIn_region ?_)
  rw [hNs, show List.range 2 = [0, 1] from rfl, wpOpsIn_cons]
  unfold wpOpIn
  simp only [hoN1, Region.wanted, gN1, if_true]
  -- the step's two ways
  have step : ∀ (tp : Array Value) (bb : Bool) (w4 : World), (Instr.next (.pointer (some ⟨ci, 0, none⟩)) false o1.type).run p w3 = .ok (.tuple tp) w4 → tp[0]? = some (.bool bb) →
      ((Code.seq (.cond (.tmp ok.nat) .skip (.exit id)) (.block b (.seq (.region re opsE false) R))).wpIn F n p (Exit.then (fun a' w' => ∃ j', j' < j ∧ J j' a' w') (Exit.inBlock id (Post (crOf okD p) N B0 Bm φ h w .nrm s2 h2))) ((a3.put (some nx.nat) (.tuple tp)).put (some ok.nat) (.bool bb)) w4) →
      o1.wpIn F n p a3 w3 (wpOpsIn F n p opsN (Exit.then (fun a' w' => (Code.seq (.cond (.tmp ok.nat) .skip (.exit id)) (.block b (.seq (.region re opsE false) R))).wpIn F n p (Exit.then (fun a' w' => ∃ j', j' < j ∧ J j' a' w') (Exit.inBlock id (Post (crOf okD p) N B0 Bm φ h w .nrm s2 h2))) a' w') (Exit.then (fun a' w' => ∃ j', j' < j ∧ J j' a' w') (Exit.inBlock id (Post (crOf okD p) N B0 Bm φ h w .nrm s2 h2)))) [1])
        (Exit.then (fun a' w' => (Code.seq (.cond (.tmp ok.nat) .skip (.exit id)) (.block b (.seq (.region re opsE false) R))).wpIn F n p (Exit.then (fun a' w' => ∃ j', j' < j ∧ J j' a' w') (Exit.inBlock id (Post (crOf okD p) N B0 Bm φ h w .nrm s2 h2))) a' w') (Exit.then (fun a' w' => ∃ j', j' < j ∧ J j' a' w') (Exit.inBlock id (Post (crOf okD p) N B0 Bm φ h w .nrm s2 h2)))) := by
    intro tp bb w4 hrun1 htp hk2
    refine wpIn_of_val (v := .tuple tp) (w' := w4) hF (fun c e => by rw [e1] at e; cases e) (by simp only [execOp, e1, hptr, Sem.run_bind, hrun1, Result.andThen_ok, Sem.run_pure]) ?_
    rw [dN1a, wpOpsIn_cons]
    unfold wpOpIn
    simp only [hoN2, Region.wanted, gN2, if_true]
    refine wpIn_of_val (v := .bool bb) (w' := w4) hF (fun c e => by rw [e2] at e; cases e) ?_ ?_
    · have : (a3.put (some nx.nat) (.tuple tp)).eval (.tmp nx.nat) = .tuple tp := put_eval hnxN
      simp [execOp, e2, this, Instr.extract, htp]
    · rw [dN2a]; exact hk2
  have hnxit : nx ≠ it := fun e => hit (by rw [← e]; exact kS1)
  have hokit : ok ≠ it := fun e => hit (by rw [← e]; exact kS2)
  have rel5 : ∀ (u v : Value), RelS φ2 s2 ((a3.put (some nx.nat) u).put (some ok.nat) v).tmps := fun u v => (q2.put_none (hnone nx kS1)).put_none (hnone ok kS2)
  have eval5 : ∀ (u v : Value), ((a3.put (some nx.nat) u).put (some ok.nat) v).eval (.tmp ok.nat) = v := fun u v => put_eval (by simpa [Act.put] using hokN)
  have over : ∀ (tp : Array Value), (Code.seq (.cond (.tmp ok.nat) .skip (.exit id)) (.block b (.seq (.region re opsE false) R))).wpIn F n p (Exit.then (fun a' w' => ∃ j', j' < j ∧ J j' a' w') (Exit.inBlock id (Post (crOf okD p) N B0 Bm φ h w .nrm s2 h2))) ((a3.put (some nx.nat) (.tuple tp)).put (some ok.nat) (.bool false)) w3 := by
    intro tp
    refine wpIn_seq (wpIn_cond_false (eval5 _ _) (wpIn_exit ?_))
    show Exit.inBlock id (Post (crOf okD p) N B0 Bm φ h w .nrm s2 h2) (.exit id) _ _
    simp only [Exit.inBlock, if_true]
    exact hfin _ _ q1 (rel5 _ _) (by simpa [Act.put] using q3) (by simpa [Act.put] using q4) q5
  rcases q6 with ⟨e0, k1⟩ | ⟨c0, es', clk, seen, ck, k1, k2, k3, k4, k5, k6, k7, k8⟩
  · refine step #[.bool false] false w3 ?_ rfl (over _)
    simp [Instr.next, getObj, Sem.run, k1]
  · have hold : ∀ x ∈ es'.toList, x.born < clk := fun x hx => by
      obtain ⟨i, hi⟩ := List.mem_iff_getElem?.1 hx
      obtain ⟨ea, h5, h6⟩ := k2.at_r i x hi
      rw [← h6.2.2]; exact k5 ea (List.mem_of_getElem? h5)
    rcases run_next_at (P := p) w3 o1.type ci c0 clk ck seen es' clk k3 k1 hold k4 with ⟨_, hov⟩ | ⟨e, he, w3', hw3, hmore⟩
    · exact step #[.bool false] false w3 hov rfl (over _)
    · obtain ⟨hes, _⟩ := mem_left he
      have hh3 : w3'.heap = w3.heap ∧ w3'.os = w3.os ∧ w3'.tape = w3.tape ∧ w3'.output = w3.output := by rcases hw3 with rfl | rfl <;> exact ⟨rfl, rfl, rfl, rfl⟩
      obtain ⟨b1, b2, b3, b4, b5, b6⟩ := setBlock_heap (w1 := w3') (r := ci) (o := .mapIter (some c0) clk (seen.push e.born) clk)
      refine step #[.bool true, e.key, e.val] true _ hmore rfl ?_
      generalize hw4 : setBlock w3' ci (.mapIter (some c0) clk (seen.push e.born) clk) = w4 at b1 b2 b3 b4 b5 b6
      rw [hh3.1] at b1 b2 b3
      have hci3 : ci < w3.heap.size := (Array.getElem?_eq_some_iff.1 k3).1
      have hci4 := b3 hci3
      have hc04 : w4.heap[c0]? = some (.map es' clk) := by rw [b2 c0 k7]; exact k1
      have sm4 : Sim (crOf okD p) B0 φ2 h2 w4 := q1.poke (c := ci) b1 b2 (fun q o i hq ho hi hcon => by
        rw [← hh2] at hq
        change Tr.get q (Tr.put _ _ _) = _ at hq
        rw [Tr.get_put] at hq
        split at hq
        · cases hq; exact ho rfl
        · rename_i hne
          obtain ⟨i1, h5, h6⟩ := sm1.obj q o hq ho
          rw [← hφ2, Phi.upd_ne _ _ hne, h5] at hi
          cases hi
          exact Nat.lt_irrefl _ (sm1.dom q _ ci h5 hcon))
      have mk4 : Marks Bm φ2 w4 a3.defers := q4.world (fun r hr => b2 r (fun e => by rw [e, k3] at hr; cases hr))
      have x4 : Ext φ1 h1 w1 φ2 h2 w4 := by
        obtain ⟨ll, nn, z1, z2, z3, z4, z5, z6, z7, z8⟩ := q5.log
        exact ⟨q5.old, q5.sz, by rw [b1]; exact q5.size, by rw [b4, hh3.2.1]; exact q5.os, by rw [b5, hh3.2.2.1]; exact q5.tape, by rw [b6, hh3.2.2.2]; exact q5.output,
          ll, nn, z1, z2, fun c hc hl => by rw [b2 c (Nat.ne_of_lt hc)]; exact z3 c hc hl, z4, z5, z6, z7, z8⟩
      refine wpIn_seq (wpIn_cond_true (eval5 _ _) (wpIn_skip ?_))
      show (Code.block b _).wpIn F n p _ _ _
      generalize ha5 : (a3.put (some nx.nat) (.tuple #[.bool true, e.key, e.val])).put (some ok.nat) (.bool true) = a5
      have r5 : RelS φ2 s2 a5.tmps := by rw [← ha5]; exact rel5 _ _
      have n5 : N ≤ a5.tmps.size := by rw [← ha5]; simpa [Act.put] using q3
      have d5 : a5.defers = a3.defers := by rw [← ha5]; simp [Act.put]
      have p5 : a5.eval (.tmp it.nat) = .pointer (some ⟨ci, 0, none⟩) := by rw [← ha5, put_eval_ne hokit, put_eval_ne hnxit]; exact hptr
      refine wpIn_block (wpIn_seq (wpIn_region ?_))
      rw [hEs, List.range_eq_range', List.range'_succ, wpOpsIn_cons]
      unfold wpOpIn
      simp only [hoE0, Region.wanted, gE, if_true]
      have hnd : (es'.toList.map (·.born)).Nodup := by rw [← relE_born k2]; exact k6
      have hent := run_entry_at (P := p) w4 ci c0 clk seen es' clk e hci4 hc04 hes hnd
      refine wpIn_of_val (v := .tuple #[e.key, e.val]) (w' := w4) hF (fun c e => by rw [eE] at e; cases e) (by simp only [execOp, eE, p5, Sem.run_bind, hent, Result.andThen_ok, Sem.run_pure]) ?_
      rw [dE1]
      obtain ⟨i, hi⟩ := List.mem_iff_getElem?.1 hes
      obtain ⟨ea, h5, h6⟩ := k2.at_r i e hi
      have hrnd := allE_eq g9 ea (List.mem_of_getElem? h5)
      obtain ⟨ek, ev, eb⟩ := ea
      have hrnd : Option.rec (motive := fun _ => Bool) false (fun _ => true) (rnd1 cl (runC cl m) te kl b l c s2 h2 ek ev) = true := hrnd
      cases hr1 : rnd1 cl (runC cl m) te kl b l c s2 h2 ek ev with
      | none => rw [hr1] at hrnd; cases hrnd
      | some y =>
      obtain ⟨x3, s3, h3⟩ := y
      obtain ⟨st, m1, m2⟩ := bnd_eq.1 (show bnd (s2.set (some (V.t [ek, ev])) te) (fun s0 => bnd2 (insL cl l s0 ⟨h2.sz, h2.tr, [], []⟩) (fun s1 h1 => bnd3 (runC cl m c s1 h1) (fun x t2 h2 => guardB (okRnd b x) (guardB (keptB kl s2 t2) (guardB (subP h2.log h2.nw) (some (x, t2, h2))))))) = some (x3, s3, h3) from hr1)
      rw [Tr.set_eq] at m1
      cases m1
      obtain ⟨s4, h4, m3, m4⟩ := bnd2_eq.1 m2
      obtain ⟨x5, s5, h5', m5, m6⟩ := bnd3_eq.1 m4
      obtain ⟨m7, m8⟩ := guardB_eq.1 m6
      obtain ⟨mk, m8'⟩ := guardB_eq.1 m8
      obtain ⟨m9, m10⟩ := guardB_eq.1 m8'
      cases m10
      have hteN : te.nat < a5.tmps.size := Nat.lt_of_lt_of_le dE2 n5
      have r6 : RelS φ2 (Tr.put (some (V.t [ek, ev])) te s2) (a5.put (some te.nat) (.tuple #[e.key, e.val])).tmps := fun q v hq => by
        rw [Tr.get_put] at hq
        split at hq
        · rename_i eq
          subst eq; cases hq
          exact ⟨_, by simp [Act.put, Array.getElem?_setIfInBounds, hteN], #[e.key, e.val], rfl, h6.1.mono hle12, h6.2.1.mono hle12, trivial⟩
        · rename_i hne
          obtain ⟨v', z1, z2⟩ := r5 q v hq
          exact ⟨v', by simp only [Act.put]; rw [Array.getElem?_setIfInBounds_ne (fun e => hne (P.nat_inj e.symm))]; exact z1, z2⟩
      have sm4' : Sim (crOf okD p) B0 φ2 ⟨h2.sz, h2.tr, [], []⟩ w4 := ⟨sm4.fresh, sm4.dom, sm4.obj, sm4.sep, sm4.low, sm4.top⟩
      have hdropE : (opsE.toList.drop 1).take l.length = restE := by rw [hoE, List.drop_succ_cons, List.drop_zero, ← okIs_size kE4, List.take_length]
      have main := insL_sound' (rest := []) (n := n) (Q := Exit.then (fun a' w' => R.wpIn F n p (Exit.inBlock b (Exit.then (fun a' w' => ∃ j', j' < j ∧ J j' a' w') (Exit.inBlock id (Post (crOf okD p) N B0 Bm φ h w .nrm s2 h2)))) a' w')
        (Exit.inBlock b (Exit.then (fun a' w' => ∃ j', j' < j ∧ J j' a' w') (Exit.inBlock id (Post (crOf okD p) N B0 Bm φ h w .nrm s2 h2))))) hF hcl kE4 hdropE (a := a5.put (some te.nat) (.tuple #[e.key, e.val])) (by simpa [Act.put] using n5) r6 sm4' m3 (fun a6 w6 φ6 y1 y2 y3 y4 y5 => ?_)
      · rw [List.append_nil] at main; exact main
      · have mk6 : Marks Bm φ6 w6 a6.defers := by
          rw [y5]
          have : (a5.put (some te.nat) (.tuple #[e.key, e.val])).defers = a3.defers := by simpa [Act.put] using d5
          rw [this]; exact mk4.ext sm4' y2
        have hBm6 : Bm ≤ w6.heap.size := by
          have z1 := y2.size; have z2 := x1.size; have z3 := q5.size; omega
        show R.wpIn F n p _ a6 w6
        refine wpIn_mono (ih (Bm := Bm) (n := n) hF m5 hR hr y1 y3 y4 mk6 hBm6) ?_
        rintro ex a8 w8 ⟨rfl, φ8, t1, t2, t3, t4, t5⟩
        have hend : ∀ Q : Exit → Act → World → Prop, Q .normal a8 w8 → Exit.inBlock b Q x3.ex a8 w8 := fun Q hq => by
          cases x3 with
          | nrm => exact hq
          | exit jj =>
            have : jj = b := by rw [← Nat.beq_eq]; exact m7
            subst this
            simp only [X.ex, Exit.inBlock, if_true]; exact hq
          | ret => cases m7
        refine hend _ ?_
        show ∃ j', j' < j ∧ J j' a8 w8
        have xt := y2.trans t2
        obtain ⟨ll, nn, z1, z2, z3, z4, z5, z6, z7, z8⟩ := xt.log
        have e1 : h3.log = ll := by rw [z1]; exact List.append_nil _
        have e2 : h3.nw = nn := by rw [z2]; exact List.append_nil _
        have hnew : ∀ q ∈ ll, φ2 q = none := fun q hq => (sm4.fresh q (by
          have := subP_eq m9 q (by rw [e1]; exact hq)
          rw [e2] at this
          exact (z6 q this).1)).1
        have hkeep : ∀ c, c < w4.heap.size → w8.heap[c]? = w4.heap[c]? := fun c hc => z3 c hc fun q hq i hi => by rw [hnew q hq] at hi; cases hi
        have hsz8 := xt.size
        refine ⟨(leftOf es' (seen.push e.born)).size, ?_, sm4.world hsz8 hkeep, fun q v hq => ?_, t4, t5.back (xt.le sm4'), ?_, ?_⟩
        · rw [← k8]; exact left_shrinks es' seen e he
        · have hqs : q ∉ sl := fun hin => by rw [hnone q hin] at hq; cases hq
          have hqt : q ≠ te := fun e => hqs (by rw [e]; exact kS3)
          have f1 : s3.get q = s2.get q := by
            by_cases hkl : q ∈ kl
            · rw [hq]; exact keptB_eq mk q hkl hq
            · have hqa : q ∉ sl ++ kl := fun h => (List.mem_append.1 h).elim hqs hkl
              rw [runC_get m m5 kS5 hqa, insL_get m3 kS4 hqa, Tr.get_put_ne _ hqt]
          obtain ⟨v8, f2, f3⟩ := t3 q v (by rw [f1]; exact hq)
          obtain ⟨v0, _, f5⟩ := r5 q v hq
          exact ⟨v8, f2, f5.back (xt.le sm4') f3⟩
        · obtain ⟨ll', nn', y1', y2', y3', y4', y5', y6', y7', y8'⟩ := x4.log
          exact ⟨x4.old, x4.sz, Nat.le_trans x4.size hsz8, by rw [xt.os]; exact x4.os, by rw [xt.tape]; exact x4.tape, by rw [xt.output]; exact x4.output,
            ll', nn', y1', y2', fun c hc hl => by rw [hkeep c (Nat.lt_of_lt_of_le hc x4.size)]; exact y3' c hc hl, y4', y5', y6', y7', y8'⟩
        · refine .inr ⟨c0, es', clk, seen.push e.born, clk, ?_, k2, ?_, Nat.le_refl _, k5, k6, k7, rfl⟩
          · rw [hkeep c0 (Array.getElem?_eq_some_iff.1 hc04).1]; exact hc04
          · rw [hkeep ci (by rw [b1]; exact hci3)]; exact hci4
end
end Go.Am
namespace Go.Am
set_option autoImplicit false
set_option linter.unusedSimpArgs false
set_option linter.unusedVariables false
section
variable {B B0 : Nat} {φ φ' : Phi} {h h' : H} {w w' : World} {p : Program} {s s' : S} {a : Act} {ds : List Deferred}
  {okD : Array Oper → List I → List (Option (List Nat)) → Bool} {cl : Call} {m : Nat}

theorem run_sound (hD : DrawSound (crOf okD p) p okD) (hcl : CallSound (crOf okD p) p cl) (hmc : MonCall cl) : ∀ m, RunOk (crOf okD p) p okD cl m := by
  intro m
  induction m using Nat.strongRecOn with
  | _ m ih =>
    intro F n N B0 Bm rd c code x φ h h' w s s' a hF hx hk hr sim hs hN hm hB
    cases m with
    | zero => cases hx
    | succ m =>
      have ihm : RunOk (crOf okD p) p okD cl m := ih m (Nat.lt_succ_self m)
      unfold okC at hk
      split at hk
      · cases hx
        exact wpIn_skip ⟨rfl, φ, sim, Ext.refl sim, hs, hN, hm⟩
      · cases hx
        exact wpIn_label ⟨rfl, φ, sim, Ext.refl sim, hs, hN, hm⟩
      · rename_i ops l
        obtain ⟨s1, h1, g1, g2⟩ := bnd2_eq.1 (show bnd2 (insL cl l s h) (fun s h => some (X.nrm, s, h)) = some (x, s', h') from hx)
        cases g2
        refine wpIn_region ?_
        have hlen : ops.size = l.length := by
          have : ∀ {os : List Oper} {is : List I}, okIs p N ops os is = true → os.length = is.length := by
            intro os
            induction os with
            | nil => intro is hk; cases is <;> simp_all [okIs]
            | cons o os iho => intro is hk; cases is with
              | nil => cases hk
              | cons i is => simp only [okIs, Bool.and_eq_true] at hk; simp [iho hk.2]
          rw [← this hk]; simp
        rw [List.range_eq_range', hlen]
        refine insL_sound hF hcl hk (by simp) hN hs sim g1 fun a' w' φ' q1 q2 q3 q4 q5 => ⟨rfl, φ', q1, q2, q3, q4, ?_⟩
        rw [q5]; exact hm.ext sim q2
      · rename_i ops l us
        simp only [Bool.and_eq_true] at hk
        obtain ⟨s1, h1, g1, g2⟩ := bnd2_eq.1 (show bnd2 (drwL cl l us s h) (fun s h => some (X.nrm, s, h)) = some (x, s', h') from hx)
        cases g2
        refine wpIn_region_draw fun t => ?_
        have sd := sim.world (w' := { w with drawn := w.drawn + 1 }) (Nat.le_refl _) (fun _ _ => rfl)
        have xd := Ext.world sim (w' := { w with drawn := w.drawn + 1 }) (Nat.le_refl _) (fun _ _ => rfl) rfl rfl rfl
        refine hD hF hcl hmc hk.1 hk.2 hN hs sd g1 (fun a' w' φ' q1 q2 q3 q4 q5 => ⟨rfl, φ', q1, xd.trans q2, q3, q4, ?_⟩) t
        rw [q5]; exact hm.ext sim (xd.trans q2)
      · simp only [Bool.and_eq_true] at hk
        exact run_seq ihm hF hx hk.1 hk.2 hr sim hs hN hm hB
      · rename_i c0 b1 b2 c1 x1 x2
        simp only [Bool.and_eq_true] at hk
        obtain ⟨v, g1, g2⟩ := bnd_eq.1 (show bnd (opd s c1) (fun v => onBool v (runC cl m x1 s h) (runC cl m x2 s h)) = some (x, s', h') from hx)
        have hv := okO_rel hs hk.1.1 g1
        rcases onBool_eq.1 g2 with ⟨rfl, g3⟩ | ⟨rfl, g3⟩
        · exact wpIn_cond_true hv (ihm hF g3 hk.1.2 hr sim hs hN hm hB)
        · exact wpIn_cond_false hv (ihm hF g3 hk.2 hr sim hs hN hm hB)
      · simp only [Bool.and_eq_true] at hk
        obtain ⟨h1, h2⟩ := hk
        rw [Nat.beq_eq] at h1
        subst h1
        exact run_blk ihm hF hx h2 hr sim hs hN hm hB
      · exact run_loop (fun j hj => ih j (by omega)) hF hx hk hr sim hs hN hm hB
      · rw [Nat.beq_eq] at hk
        subst hk
        cases hx
        exact wpIn_exit ⟨rfl, φ, sim, Ext.refl sim, hs, hN, hm⟩
      · cases hx
        exact wpIn_ret ⟨rfl, φ, sim, Ext.refl sim, hs, hN, hm⟩
      · rename_i b1 c1
        simp only [Bool.and_eq_true, Bool.not_eq_true'] at hk
        obtain ⟨k1, k2⟩ := hk
        have hw : F = Fence.wide := by
          rcases hF with rfl | ⟨l, rfl⟩
          · rfl
          · cases hr k1
        obtain ⟨x1, s1, h1, g1, g2⟩ := bnd3_eq.1 (show bnd3 (runC cl m c1 s h) (thenC (runC cl m) .skip) = some (x, s', h') from hx)
        have hb := ihm (Bm := Bm) (n := n) hF g1 k2 hr sim hs hN hm hB
        have hsame : x = x1 ∧ s' = s1 ∧ h' = h1 := by
          cases x1 with
          | nrm => cases m with
            | zero => cases g2
            | succ m => cases g2; exact ⟨rfl, rfl, rfl⟩
          | exit id => cases g2; exact ⟨rfl, rfl, rfl⟩
          | ret => cases g2; exact ⟨rfl, rfl, rfl⟩
        obtain ⟨rfl, rfl, rfl⟩ := hsame
        subst hw
        refine wpIn_wide.2 (wp_scope_straight (wpIn_wide.1 (wpIn_mono hb ?_)))
        rintro e a' w' ⟨rfl, q⟩
        cases x <;> exact ⟨rfl, q⟩
      · simp only [Bool.and_eq_true, Bool.not_eq_true', decide_eq_true_eq, List.all_eq_true] at hk
        obtain ⟨⟨⟨⟨⟨k1, k2⟩, k3⟩, k4⟩, k5⟩, k6⟩ := hk
        exact run_rngf hcl ihm hF hx k2 k3 (fun q hq => by have := k4 q hq; simpa [Nat.blt_eq] using this) k5 k6 (hr k1) sim hs hN hm hB
      · rename_i r1 opsA id1 r2 opsN t id2 b1 r3 opsE R pre mo it nx ok te sl kl id b l c
        simp only [Bool.and_eq_true] at hk
        obtain ⟨⟨⟨⟨k1, k2⟩, k3⟩, k4⟩, k5⟩ := hk
        rw [Nat.beq_eq] at k2 k3 k4
        subst k2 k3 k4
        exact run_mfor hcl ihm hF hx k1 k5 hr sim hs hN hm hB
      · cases hx
      · cases hk

/-! calls -/
theorem mkS_rel : ∀ {vs : List V} {ws : List Value} {q : P} {s s' : S} {tmps : Array Value}, RelL (RelV φ) vs ws → mkS vs q s = some s' → RelS φ s tmps → (∀ j v, ws[j]? = some v → tmps[q.nat + j]? = some v) → RelS φ s' tmps
  | [], [], q, s, s', tmps, _, hx, hs, _ => by cases hx; exact hs
  | v :: vs, u :: ws, q, s, s', tmps, ⟨h1, h2⟩, hx, hs, ht => by
    obtain ⟨s1, g1, g2⟩ := bnd_eq.1 (show bnd (s.set (some v) q) (fun s => nextK q (fun i => mkS vs i s)) = some s' from hx)
    rw [Tr.set_eq] at g1
    cases g1
    rw [nextK_eq] at g2
    refine mkS_rel h2 g2 (fun r x hr => ?_) (fun j x hj => by rw [P.nat_next, Nat.add_assoc, Nat.add_comm 1 j]; exact ht (j + 1) x (by simpa using hj))
    rw [Tr.get_put] at hr
    split at hr
    · rename_i e; subst e; cases hr; exact ⟨u, by have := ht 0 u (by simp); simpa using this, h1⟩
    · exact hs r x hr
theorem setPs_rel : ∀ {ps : List P} {vs : List V} {ws : List Value} {s s' : S} {tmps : Array Value}, RelL (RelV φ) vs ws → setPs ps vs s = some s' → RelS φ s tmps → (∀ q ∈ ps, q.nat < tmps.size) →
    ps.length = ws.length ∧ RelS φ s' (((ps.map P.nat).zip ws).foldl (fun t (x : Nat × Value) => t.setIfInBounds x.1 x.2) tmps) ∧ (((ps.map P.nat).zip ws).foldl (fun t (x : Nat × Value) => t.setIfInBounds x.1 x.2) tmps).size = tmps.size
  | [], [], [], s, s', tmps, _, hx, hs, _ => by cases hx; exact ⟨rfl, hs, rfl⟩
  | [], v :: vs, u :: ws, s, s', tmps, _, hx, _, _ => by cases hx
  | q :: ps, [], [], s, s', tmps, _, hx, _, _ => by cases hx
  | q :: ps, v :: vs, u :: ws, s, s', tmps, ⟨h1, h2⟩, hx, hs, ht => by
    obtain ⟨s1, g1, g2⟩ := bnd_eq.1 (show bnd (s.set (some v) q) (setPs ps vs) = some s' from hx)
    rw [Tr.set_eq] at g1
    cases g1
    have hq := ht q (by simp)
    obtain ⟨k1, k2, k3⟩ := setPs_rel (tmps := tmps.setIfInBounds q.nat u) h2 g2 (fun r x hr => by
      rw [Tr.get_put] at hr
      split at hr
      · rename_i e; subst e; cases hr; exact ⟨u, by simp [Array.getElem?_setIfInBounds, hq], h1⟩
      · rename_i e
        obtain ⟨x', m1, m2⟩ := hs r x hr
        exact ⟨x', by rw [Array.getElem?_setIfInBounds_ne (fun e' => e (P.nat_inj e'.symm))]; exact m1, m2⟩) (fun q' hq' => by simpa using ht q' (by simp [hq']))
    exact ⟨by simp [k1], by simpa using k2, by simpa using k3⟩
end
end Go.Am
namespace Go.Am
set_option autoImplicit false
set_option linter.unusedSimpArgs false
set_option linter.unusedVariables false
section
variable {cr : CR} {B B0 : Nat} {φ φ' : Phi} {h h' : H} {w w' : World} {p : Program} {s s' : S} {a : Act} {ds : List Deferred}
  {okD : Array Oper → List I → List (Option (List Nat)) → Bool} {cl : Call} {m : Nat}

/-- a block that nothing names -/
theorem Sim.other (sim : Sim cr B0 φ h w) {r : Nat} {o : Obj} (hr : ∀ b i, φ b = some i → i.blk ≠ some r) : Sim cr B0 φ h (w.putObj r o) where
  fresh := sim.fresh
  dom b i c hb hi := by rw [World.putObj_size]; exact sim.dom b i c hb hi
  obj b o' hb ho := let ⟨i, h1, h2⟩ := sim.obj b o' hb ho; ⟨i, h1, h2.mono (Le.refl _) fun c hi => World.putObj_heap_other fun e => hr b i h1 (by rw [hi, e])⟩
  sep := sim.sep
  low := sim.low
  top := by rw [World.putObj_size]; exact sim.top
theorem Ext.other (e : Ext φ h w φ' h' w') {r : Nat} {o : Obj} (hr : w.heap.size ≤ r) : Ext φ h w φ' h' (w'.putObj r o) := by
  obtain ⟨l, n, a1, a2, a3, a4, a5, a6, a7, a8⟩ := e.log
  refine ⟨e.old, e.sz, by rw [World.putObj_size]; exact e.size, e.os, e.tape, e.output, l, n, a1, a2, fun c hc hl => ?_, a4, a5, a6, a7, a8⟩
  rw [World.putObj_heap_other (by omega)]
  exact a3 c hc hl
theorem leaves {fn : Func} {tmps : Array Value} {R : Ending → World → Prop} (hR : ∀ w2, Sim cr B0 φ' h' w2 → Ext φ h w φ' h' w2 → ∃ v, (results fn tmps).run p w2 = .ok v w2 ∧ R (.returned v) w2) :
    ∀ {rs : List Nat} {w' : World}, Sim cr B0 φ' h' w' → Ext φ h w φ' h' w' → rs.Nodup → (∀ r ∈ rs, w.heap.size ≤ r ∧ w'.heap[r]? = some (.deferred (some [])) ∧ ∀ b i, φ' b = some i → i.blk ≠ some r) →
    LeavesInM Fence.wide 0 p fn tmps R (rs.map mark) .returning w'
  | [], w', s1, e1, _, _ => hR w' s1 e1
  | r :: rs, w', s1, e1, hn, hr => by
    obtain ⟨k1, k2, k3⟩ := hr r (by simp)
    obtain ⟨n1, n2⟩ := List.nodup_cons.1 hn
    refine ⟨by simp, .inl ⟨r, w'.putObj r (.deferred none), rfl, run_takeDeferred k2, ?_⟩⟩
    refine leaves hR (s1.other k3) (e1.other k1) n2 fun r' hr' => ?_
    obtain ⟨q1, q2, q3⟩ := hr r' (by simp [hr'])
    exact ⟨q1, by rw [World.putObj_heap_other (fun e => n1 (by rw [← e]; exact hr'))]; exact q2, q3⟩

def okR1 (p : Program) (r : ResultVar) (q : P × Option (Option Nat)) : Bool :=
  match r, q with
  | .tmp t, (q, none) => Nat.beq q.nat t
  | .cell t ty, (q, some n) => Nat.beq q.nat t && okN p ty n
  | _, _ => false
def okRes (p : Program) : List ResultVar → List (P × Option (Option Nat)) → Bool
  | [], [] => true
  | r :: rs, q :: qs => okR1 p r q && okRes p rs qs
  | _, _ => false
def resOne (tmps : Array Value) : ResultVar → Sem Value
  | .tmp t => pure (tmps.getD t undef)
  | .cell a t => do loadVar t (← asAddr (tmps.getD a undef))
theorem results_eq (fn : Func) (tmps : Array Value) : results fn tmps = (do let vs ← fn.results.mapM (resOne tmps); pure (if h : vs.size = 1 then vs[0] else .tuple vs)) := rfl
theorem res1_run {tmps : Array Value} {r : ResultVar} {q : P × Option (Option Nat)} {v : V} (hk : okR1 p r q = true) (sim : Sim cr B0 φ h w) (hs : RelS φ s tmps) (hx : res1 s h q.1 q.2 = some v) :
    ∃ v', (resOne tmps r).run p w = .ok v' w ∧ RelV φ v v' := by
  unfold okR1 at hk
  split at hk
  · rename_i t q
    rw [Nat.beq_eq] at hk
    obtain ⟨v', h1, h2⟩ := hs q v hx
    rw [hk] at h1
    exact ⟨v', by simp [resOne, Array.getD_eq_getD_getElem?, h1], h2⟩
  · rename_i t ty q n
    simp only [Bool.and_eq_true] at hk
    obtain ⟨k1, k2⟩ := hk
    rw [Nat.beq_eq] at k1
    obtain ⟨v1, h1, g1, g2⟩ := bnd2_eq.1 (show bnd2 (aLd s h n (.t q)) (fun v _ => some v) = some v from hx)
    cases g2
    obtain ⟨v2, g3, g4⟩ := bnd_eq.1 g1
    obtain ⟨b, off, rfl, g5⟩ := onPtr_eq.1 g4
    obtain ⟨own, T, cs, g6, g7⟩ := atRow_eq.1 g5
    obtain ⟨v3, g8, g9⟩ := bnd_eq.1 g7
    cases g9
    obtain ⟨v', d1, d2⟩ := hs q _ g3
    obtain ⟨c, base, lim, d3, rfl⟩ := d2
    obtain ⟨c', base', lim', d4, d5⟩ := sim.row g6
    rw [d3] at d4; cases d4
    obtain ⟨u, d6, d7⟩ := cellN_run (p := p) d5 k2 g8
    rw [k1] at d1
    exact ⟨u, by simp [resOne, Array.getD_eq_getD_getElem?, d1, asAddr, d6], d7⟩
  · cases hk
theorem resL_run {tmps : Array Value} : ∀ {rs : List ResultVar} {qs : List (P × Option (Option Nat))} {us : List U}, okRes p rs qs = true → Sim cr B0 φ h w → RelS φ s tmps → resL s h qs = some us →
    ∃ vs, (rs.mapM (resOne tmps)).run p w = .ok vs w ∧ RelL (RelU φ) us vs
  | [], [], us, _, _, _, hx => by cases hx; exact ⟨[], by simp, trivial⟩
  | r :: rs, q :: qs, us, hk, sim, hs, hx => by
    simp only [okRes, Bool.and_eq_true] at hk
    obtain ⟨v, g1, g2⟩ := bnd_eq.1 (show bnd (res1 s h q.1 q.2) (fun v => onU v (fun v => bnd (resL s h qs) (fun vs => some (v :: vs)))) = some us from hx)
    obtain ⟨u, rfl, g3⟩ := onU_eq.1 g2
    obtain ⟨us', g4, g5⟩ := bnd_eq.1 g3
    cases g5
    obtain ⟨v', k1, k2⟩ := res1_run hk.1 sim hs g1
    obtain ⟨vs, k3, k4⟩ := resL_run hk.2 sim hs g4
    exact ⟨v' :: vs, by simp only [List.mapM_cons, Sem.run_bind, k1, Result.andThen_ok, k3, Sem.run_pure], RelU.v.1 k2, k4⟩
  | [], _ :: _, _, hk, _, _, _ => by simp [okRes] at hk
  | _ :: _, [], _, hk, _, _, _ => by simp [okRes] at hk
theorem results_run {tmps : Array Value} {fn : Func} {qs : List (P × Option (Option Nat))} {us : List U} {v : V} {h1 : H} (hk : okRes p fn.results.toList qs = true) (sim : Sim cr B0 φ h w) (hs : RelS φ s tmps) (hx : resL s h qs = some us) (ht : tupR us h = some (v, h1)) :
    h1 = h ∧ ∃ v', (results fn tmps).run p w = .ok v' w ∧ RelV φ v v' := by
  obtain ⟨vs, k1, k2⟩ := resL_run hk sim hs hx
  have hrun : (results fn tmps).run p w = .ok (if h : vs.toArray.size = 1 then vs.toArray[0] else .tuple vs.toArray) w := by
    rw [results_eq, Array.mapM_eq_mapM_toList]
    simp only [Sem.run_bind, Sem.run_map, k1, Result.andThen_ok, Sem.run_pure]
  match us, vs, k2, ht, hrun with
  | [u], [x], k2, ht, hrun =>
    have hr : RelU φ u x := k2.1
    cases u with
    | w y => cases ht; exact ⟨rfl, x, by simpa using hrun, hr⟩
    | a y => cases ht; exact ⟨rfl, x, by simpa using hrun, hr⟩
  | [], [], _, ht, hrun => cases ht; exact ⟨rfl, _, hrun, ⟨_, rfl, trivial⟩⟩
  | u1 :: u2 :: us, x1 :: x2 :: xs, k2, ht, hrun => cases ht; exact ⟨rfl, _, hrun, ⟨_, rfl, k2⟩⟩
end
end Go.Am
namespace Go.Am
set_option autoImplicit false
set_option linter.unusedSimpArgs false
set_option linter.unusedVariables false
section
variable {B B0 : Nat} {φ φ' : Phi} {h h' : H} {w w' : World} {p : Program} {s s' : S} {a : Act} {ds : List Deferred}
  {okD : Array Oper → List I → List (Option (List Nat)) → Bool} {cl : Call} {m : Nat}

/-- the print of a function -/
def okF (okD : Array Oper → List I → List (Option (List Nat)) → Bool) (p : Program) (f : Nat) (fd : F) : Bool :=
  match p.funcs[f]? with
  | some fn => (match fn.body with | some c => okC okD p fn.ntmps false c fd.body | none => false) && okRes p fn.results.toList fd.res && !(fn.name == "runtime.NumGoroutine")
  | none => false
theorem callFn_sound (hrun : ∀ m, RunOk (crOf okD p) p okD cl m) {k : Nat} {fd : F} (hf : okF okD p k fd = true) {args : List V} {vals : List Value} (hv : RelL (RelV φ) args vals) (sim : Sim (crOf okD p) B0 φ h w) {v : V}
    (hx : callFn (runC cl m) fd args h = some (v, h')) :
    ∃ fn, p.funcs[k]? = some fn ∧ fn.body.isNone = false ∧ (fn.name == "runtime.NumGoroutine") = false ∧
      CallsIn Fence.wide 0 p k vals.toArray w (fun e w' => ∃ v', e = .returned v' ∧ Res (crOf okD p) B0 φ h w v h' v' w') := by
  obtain ⟨res, body⟩ := fd
  unfold okF at hf
  split at hf
  · rename_i fn hfn
    simp only [Bool.and_eq_true, Bool.not_eq_true'] at hf
    obtain ⟨⟨h1, h2⟩, h3⟩ := hf
    split at h1
    · rename_i c hc
      refine ⟨fn, hfn, by rw [hc]; rfl, h3, ?_⟩
      obtain ⟨s0, g1, g2⟩ := bnd_eq.1 (show bnd (mkS args .h .e) (fun s => bnd3 (runC cl m body s h) (fun x s h => okX x (bnd (resL s h res) (fun vs => tupR vs h)))) = some (v, h') from hx)
      obtain ⟨x, s1, hh1, g3, g4⟩ := bnd3_eq.1 g2
      have hrel : RelS φ s0 (vals.toArray ++ Array.replicate (fn.ntmps - vals.toArray.size) undef) := by
        refine mkS_rel hv g1 (fun r x hr => by simp at hr) fun j x hj => ?_
        show (vals.toArray ++ _)[0 + j]? = some x
        rw [Nat.zero_add, Array.getElem?_append_left (by have := (List.getElem?_eq_some_iff.1 hj).1; simpa using this)]
        simpa using hj
      refine callsIn_of_wp_marks hfn hc trivial ?_ rfl
      have hfin : ∀ (a' : Act) (w' : World) φ', Sim (crOf okD p) B0 φ' hh1 w' → Ext φ h w φ' hh1 w' → RelS φ' s1 a'.tmps → Marks w.heap.size φ' w' a'.defers →
          bnd (resL s1 hh1 res) (fun vs => tupR vs hh1) = some (v, h') → LeavesInM Fence.wide 0 p fn a'.tmps (fun e w' => ∃ v', e = .returned v' ∧ Res (crOf okD p) B0 φ h w v h' v' w') a'.defers .returning w' := by
        intro a' w' φ' q1 q2 q3 q4 q5
        obtain ⟨us, d1, d2⟩ := bnd_eq.1 q5
        obtain ⟨rs, d3, d4, d5⟩ := q4
        rw [d3]
        refine leaves (fun w2 e1 e2 => ?_) q1 q2 d4 d5
        obtain ⟨rfl, u, k1, k2⟩ := results_run h2 e1 q3 d1 d2
        exact ⟨u, k1, u, rfl, φ', e1, e2, k2⟩
      refine wpIn_mono (hrun m (F := Fence.wide) (.inl rfl) g3 h1 (fun _ => rfl) sim hrel (by simp; omega) Marks.nil (Nat.le_refl _)) ?_
      rintro e a' w' ⟨rfl, φ', q1, q2, q3, q4, q5⟩
      cases x with
      | nrm => exact hfin a' w' φ' q1 q2 q3 q5 g4
      | exit id => cases g4
      | ret => exact hfin a' w' φ' q1 q2 q3 q5 g4
    · cases h1
  · cases hf

theorem capV_rel : ∀ {us : List U} {vs : List Value} {cs : List V}, RelL (RelU φ) us vs → capV us = some cs → RelL (RelV φ) cs vs
  | [], [], cs, _, hx => by cases hx; trivial
  | u :: us, v :: vs, cs, ⟨h1, h2⟩, hx => by
    obtain ⟨r, g1, g2⟩ := bnd_eq.1 (show bnd (capV us) (fun r => U.rec (motive := fun _ => Option (List V)) (fun x => some (.w x :: r)) (fun cs => some (.a cs :: r)) u) = some cs from hx)
    have := capV_rel h2 g1
    cases u with
    | w x => cases g2; exact ⟨h1, this⟩
    | a x => cases g2; exact ⟨h1, this⟩

theorem atLp_eq {β : Type} {q : P} {f : S → List P → C → C → Option C → Bool → Option β} {b : β} : bnd (h.tr.get q) (onLpO f) = some b ↔ ∃ sl ps asg body j busy, h.tr.get q = some (.lp sl ps asg body j busy) ∧ f sl ps asg body j busy = some b := by
  rw [bnd_eq]
  constructor
  · rintro ⟨o, h1, h2⟩; cases o <;> first | (cases h2; done) | exact ⟨_, _, _, _, _, _, h1, h2⟩
  · rintro ⟨_, _, _, _, _, _, h1, h2⟩; exact ⟨_, h1, h2⟩
theorem Sim.lpObj {cr : CR} (sim : Sim cr B0 φ h w) {q : P} {c : Nat} {sl : S} {ps : List P} {asg body : C} {j : Option C} {busy : Bool} (hb : h.tr.get q = some (.lp sl ps asg body j busy)) (hi : φ q = some (.obj c)) : ObjRel cr φ w (.lp sl ps asg body j busy) (.obj c) := by
  obtain ⟨i, h1, h2⟩ := sim.obj q _ hb (by simp)
  rw [hi] at h1; cases h1
  exact h2
theorem callY_sound (hrun : ∀ m, RunOk (crOf okD p) p okD cl m) {l : P} {c : Nat} (hl : φ l = some (.obj c)) {args : List V} {vals : List Value} (hv : RelL (RelV φ) args vals) (sim : Sim (crOf okD p) B0 φ h w) {v : V}
    (hx : callY (runC cl m) l args h = some (v, h')) :
    ∃ r, w.heap[c]? = some (.loop r) ∧ vals.toArray.size = r.params.size ∧
      RoundIn Fence.wide 0 p c r.fn ((r.params.zip vals.toArray).foldl (fun tmps (t, a) => tmps.setIfInBounds t a) r.tmps) r.assign r.body w (fun e w' => ∃ v', e = .returned v' ∧ Res (crOf okD p) B0 φ h w v h' v' w') := by
  obtain ⟨sl, ps, asg, body, j, busy, g1, g2⟩ := atLp_eq.1 hx
  obtain ⟨s1, g3, g4⟩ := bnd_eq.1 g2
  obtain ⟨x1, s2, h1, g5, g6⟩ := bnd3_eq.1 g4
  obtain ⟨r, q1, q2, q3, ⟨N0, q4, q5, q5'⟩, q6, q7, q8⟩ := sim.lpObj g1 hl
  obtain ⟨k1, k2, k3⟩ := setPs_rel hv g3 q3 q8
  refine ⟨r, q1, ?_, ?_⟩
  · rw [List.size_toArray, ← k1, ← Array.length_toList, q2, List.length_map]
  have hfold : (r.params.zip vals.toArray).foldl (fun tmps (t, a) => tmps.setIfInBounds t a) r.tmps = ((ps.map P.nat).zip vals).foldl (fun t (x : Nat × Value) => t.setIfInBounds x.1 x.2) r.tmps := by
    rw [← Array.foldl_toList, Array.toList_zip, q2]
  rw [hfold]
  refine roundIn_of_wpIn trivial ?_
  refine wpIn_mono (hrun m (F := Fence.wide.inRound c) (Bm := 0) (.inr ⟨c, rfl⟩) g5 q5 (fun e => by cases e) sim k2 (by rw [k3]; exact q4) Marks.nil (Nat.zero_le _)) ?_
  rintro e a1 w1 ⟨rfl, φ1, d1, d2, d3, d4, d5⟩
  cases x1 with
  | exit id => cases g6
  | ret => cases g6
  | nrm =>
    change callY2 (runC cl m) l body s2 h1 = some (v, h') at g6
    obtain ⟨sl1, ps1, asg1, body1, j1, busy1, f1, f2⟩ := atLp_eq.1 g6
    obtain ⟨f3, f4⟩ := guardB_eq.1 f2
    obtain ⟨f5, f6⟩ := guardB_eq.1 f4
    rw [H.put_eq] at f6
    obtain ⟨x3, s3, h3, f7, f8⟩ := bnd3_eq.1 f6
    obtain ⟨sl4, ps4, asg4, body4, j4, busy4, f9, f10⟩ := atLp_eq.1 f8
    rw [H.put_eq, boolK_eq] at f10
    have hl1 : φ1 l = some (.obj c) := (d2.le sim) _ _ hl
    obtain ⟨r1, e1, e2, e3, e4, e5, e6, e7⟩ := d1.lpObj f1 hl1
    have hb1 : busy1 = false := by simpa using f3
    have hst : r1.state = .ready := by rw [e5 hb1, if_pos f5]
    have hlt : c < w1.heap.size := (Array.getElem?_eq_some_iff.1 e1).1
    refine ⟨_, run_beginRound e1 hst, ?_⟩
    obtain ⟨s4, x4⟩ := d1.write (w' := w1.putObj c (.loop { r1 with state := .busy })) f1 rfl hl1 rfl (by simp) (fun k hk => World.putObj_heap_other hk) rfl rfl rfl (o' := .lp sl1 ps1 asg1 body1 none true)
      (.inr ⟨rfl, { r1 with state := .busy }, World.putObj_heap_same hlt, e2, e3, e4, (fun e => by cases e), (by cases j1 with | none => exact e6 | some _ => cases f5), e7⟩)
    refine wpIn_mono (hrun m (F := Fence.wide.inRound c) (Bm := 0) (.inr ⟨c, rfl⟩) f7 q5' (fun e => by cases e) s4 d3 d4 (d5.ext d1 x4) (Nat.zero_le _)) ?_
    rintro e a2 w2 ⟨rfl, φ2, y1, y2, y3, y4, y5⟩
    have hl2 : φ2 l = some (.obj c) := (y2.le s4) _ _ hl1
    obtain ⟨r2, z1, z2, z3, z4, z5, z6, z7⟩ := y1.lpObj f9 hl2
    have hlt2 : c < w2.heap.size := (Array.getElem?_eq_some_iff.1 z1).1
    have fin : ∀ (jc : Option Code), RelP (jump x3) jc → jc.isNone = (jump x3).isNone → ∃ v' w', (Instr.endRound c jc).run p w2 = .ok v' w' ∧ ∃ v'', Ending.returned v' = .returned v'' ∧ Res (crOf okD p) B0 φ h w v h' v'' w' := by
      intro jc hj hn
      obtain ⟨s5, x5⟩ := y1.write (w' := w2.putObj c (.loop { r2 with state := if jc.isNone then .ready else .done, pending := jc })) f9 rfl hl2 rfl (by simp) (fun k hk => World.putObj_heap_other hk) rfl rfl rfl (o' := .lp sl4 ps4 asg4 body4 (jump x3) false)
        (.inr ⟨rfl, { r2 with state := if jc.isNone then .ready else .done, pending := jc }, World.putObj_heap_same hlt2, z2, z3, z4, (fun _ => by rw [hn]), hj, z7⟩)
      refine ⟨_, _, run_endRound jc z1, _, rfl, φ2, ?_⟩
      simp only [Option.some.injEq, Prod.mk.injEq] at f10
      obtain ⟨rfl, rfl⟩ := f10
      exact ⟨s5, ((d2.trans x4).trans y2).trans x5, by rw [hn]; rfl⟩
    cases x3 with
    | nrm => exact fin none trivial rfl
    | ret => exact fin (some .ret) trivial rfl
    | exit id => exact fin (some (.exit id)) rfl rfl

/-- the program's print: every function that is named is a print -/
def OkPr (okD : Array Oper → List I → List (Option (List Nat)) → Bool) (p : Program) (pr : P → Option F) : Prop := ∀ k fd, pr k = some fd → okF okD p k.nat fd = true
theorem call_sound {pr : P → Option F} (hD : DrawSound (crOf okD p) p okD) (hpr : OkPr okD p pr) (M : Nat) : ∀ n, CallSound (crOf okD p) p (callL pr M n) := by
  intro n
  induction n with
  | zero => intro B0 φ h w f fv args vals v h' hx; cases hx
  | succ n ih =>
    have hrun := run_sound hD ih (mon_callL M n)
    intro B0 φ h w f fv args vals v h' hx hf hv sim
    obtain ⟨f0, rfl, g1⟩ := onW_eq.1 (show onW f (callW pr (runC (callL pr M n) M) args h) = some (v, h') from hx)
    cases f0 with
    | fnc k =>
      obtain ⟨fd, g2, g3⟩ := bnd_eq.1 (show bnd (pr k) (fun fd => callFn (runC (callL pr M n) M) fd args h) = some (v, h') from g1)
      obtain ⟨fn, k1, k2, k3, k4⟩ := callFn_sound hrun (hpr k fd g2) hv sim g3
      have e : fv = .func (.func k.nat) #[] #[] := hf
      exact .inl ⟨k.nat, #[], #[], fn, e, k1, k2, k3, by simpa using k4⟩
    | fn k b =>
      obtain ⟨fd, g2, g3⟩ := bnd_eq.1 (show bnd (pr k) (fun fd => bnd (h.tr.get b) (onCapO (fun fs cs => bnd (capV fs) (fun fs => bnd (capV cs) (fun cs => bnd (appX args cs) (fun args => bnd (appX fs args) (fun args => callFn (runC (callL pr M n) M) fd args h))))))) = some (v, h') from g1)
      obtain ⟨o, g4, g5⟩ := bnd_eq.1 g3
      cases o with
      | caps us0 us =>
        obtain ⟨fs, g60, g70⟩ := bnd_eq.1 (show bnd (capV us0) (fun fs => bnd (capV us) (fun cs => bnd (appX args cs) (fun args => bnd (appX fs args) (fun args => callFn (runC (callL pr M n) M) fd args h)))) = some (v, h') from g5)
        obtain ⟨cs, g6, g7⟩ := bnd_eq.1 g70
        obtain ⟨as, g8, g9⟩ := bnd_eq.1 g7
        rw [appX_eq] at g8
        cases g8
        obtain ⟨as2, g10, g11⟩ := bnd_eq.1 g9
        rw [appX_eq] at g10
        cases g10
        obtain ⟨frr, arr, e1, e2⟩ := hf
        obtain ⟨i, e3, e4⟩ := sim.obj b _ g4 (by simp)
        rw [e1] at e3; cases e3
        have hv' : RelL (RelV φ) (fs ++ (args ++ cs)) (frr.toList ++ (vals ++ arr.toList)) := (capV_rel e4.1 g60).append (hv.append (capV_rel e4.2 g6))
        obtain ⟨fn, k1, k2, k3, k4⟩ := callFn_sound hrun (hpr k fd g2) hv' sim g11
        refine .inl ⟨k.nat, frr, arr, fn, e2, k1, k2, k3, ?_⟩
        have : (frr.toList ++ (vals ++ arr.toList)).toArray = frr ++ vals.toArray ++ arr := by apply Array.ext'; simp
        rw [← this]; exact k4
      | _ => cases g5
    | yld l =>
      obtain ⟨c, e1, e2⟩ := hf
      obtain ⟨r, k1, k2, k3⟩ := callY_sound hrun e1 hv sim (show callY (runC (callL pr M n) M) l args h = some (v, h') from g1)
      exact .inr ⟨c, r, e2, k1, k2, k3⟩
    | _ => cases g1
end
end Go.Am
