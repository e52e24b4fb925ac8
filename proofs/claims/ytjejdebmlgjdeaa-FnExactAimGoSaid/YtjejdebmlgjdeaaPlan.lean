/- Regions that draw their order and write or make memory: an order of one's own, in which operations that any world of a class answers alike are taken first, and the others are forced. -/
import Derived.Test.YtjejdebmlgjdeaaQuiet
namespace Go.Proofs.Ytjejdebmlgjdeaa
set_option maxRecDepth 100000
set_option linter.unusedSimpArgs false
set_option linter.unusedVariables false
open Go Go.RowKit

section
variable {P : Program} {ops : Array Oper} {C : World → Prop}

/-- no way out but the normal one -/
abbrev NoExit : Exit → Act → World → Prop := fun _ _ _ => False

def opF (P : Program) (ops : Array Oper) (i : Nat) (K : Act → World → Prop) (a : Act) (w : World) : Prop :=
  match ops[i]? with
  | none => K a w
  | some o => if Region.wanted o (yielded ops a.tmps) then o.wp P a w K NoExit else K (a.put o.dst undef) w

theorem upon_mono {o : Oper} {a : Act} {K K' : Act → World → Prop} {Q Q' : Exit → Act → World → Prop} (h : ∀ a w, K a w → K' a w) (hq : ∀ e a w, Q e a w → Q' e a w) (r : Result Next) (hr : o.upon P a K Q r) : o.upon P a K' Q' r := by
  cases r with
  | ok x w =>
    cases x <;> first
      | exact h _ _ hr
      | exact Calls.mono hr fun e w' q => by
          cases e with
          | returned v => exact h _ _ q
          | panicked c => exact hq _ _ _ q
          | outgrown => obtain ⟨a', w', q⟩ := q; exact ⟨a', w', hq _ _ _ q⟩
      | exact Rows.mono hr fun v w' q => h _ _ q
      | exact hr.elim
  | halt x w => cases x <;> first | exact hq _ _ _ hr | exact hr.elim

theorem opF_mono {i : Nat} {a : Act} {w : World} {K K' : Act → World → Prop} (h : ∀ a w, K a w → K' a w) (hr : opF P ops i K a w) : opF P ops i K' a w := by
  unfold opF at *
  split
  · rename_i ho; simp only [ho] at hr; exact h _ _ hr
  · rename_i o ho
    simp only [ho] at hr
    split
    · rename_i hw; simp only [hw, if_true] at hr; exact upon_mono h (fun _ _ _ q => q) _ hr
    · rename_i hw; simp only [hw] at hr; exact h _ _ hr

theorem wpOp_of_opF {Q : Exit → Act → World → Prop} {i : Nat} {a : Act} {w : World} {K : Act → World → Prop} (hr : opF P ops i K a w) : wpOp P ops Q i K a w := by
  unfold opF at hr
  unfold wpOp
  split
  · rename_i ho; simp only [ho] at hr; exact hr
  · rename_i o ho
    simp only [ho] at hr
    split
    · rename_i hw; simp only [hw, if_true] at hr; exact .inl (upon_mono (fun _ _ h => h) (fun _ _ _ q => q.elim) _ hr)
    · rename_i hw; simp only [hw] at hr; exact hr

/-- whatever order is picked from here on, every world in the class -/
def T (P : Program) (ops : Array Oper) (C : World → Prop) (K : Act → World → Prop) : Nat → Array Bool → Act → World → Prop
  | 0, listed, a, w => C w ∧ Region.ready .any ops listed = [] ∧ K a w
  | f + 1, listed, a, w => C w ∧ Region.ready .any ops listed ≠ [] ∧ ∀ i ∈ Region.ready .any ops listed, opF P ops i (T P ops C K f (listed.setIfInBounds i true)) a w

theorem T.cls {K : Act → World → Prop} {f : Nat} {listed : Array Bool} {a : Act} {w : World} (h : T P ops C K f listed a w) : C w := by cases f <;> exact h.1

theorem wpAny_of_T {K : Act → World → Prop} {Q : Exit → Act → World → Prop} (hQ : ∀ a w, C w → K a w → Q .normal a w) : ∀ (f : Nat) (listed : Array Bool) (a : Act) (w : World), T P ops C K f listed a w → wpAny P .any ops Q f listed a w
  | 0, _, _, _, h => ⟨h.2.1, hQ _ _ h.1 h.2.2⟩
  | f + 1, _, _, _, h => ⟨fun h0 => absurd h0 h.2.1, fun i hi => wpOp_of_opF (opF_mono (fun a' w' => wpAny_of_T hQ f _ a' w') (h.2.2 i hi))⟩

/-- in every world of the class 'o' leaves 'v', and the world as it is -/
def Yv (P : Program) (ops : Array Oper) (C : World → Prop) (o : Oper) (v : Value) (a : Act) : Prop :=
  (Region.wanted o (yielded ops a.tmps) = true ∧ ∀ w, C w → o.quietAt P a (· = w) w v) ∨ (Region.wanted o (yielded ops a.tmps) = false ∧ v = undef)

theorem Yv.of_same {o : Oper} {v : Value} {a a' : Act} (hy : Yv P ops C o v a) (he : execOp a'.eval o = execOp a.eval o) (hw : Region.wanted o (yielded ops a'.tmps) = Region.wanted o (yielded ops a.tmps)) : Yv P ops C o v a' := by
  unfold Yv Oper.quietAt at *
  rw [he, hw]
  exact hy

theorem Yv.op {i : Nat} {o : Oper} {v : Value} {a : Act} {w : World} {K : Act → World → Prop} (hi : ops[i]? = some o) (hy : Yv P ops C o v a) (hC : C w) (h : K (a.put o.dst v) w) : opF P ops i K a w := by
  unfold opF
  simp only [hi]
  rcases hy with ⟨hw, hv⟩ | ⟨hw, rfl⟩
  · simp only [hw, if_true]
    have h3 := hv w hC
    unfold Oper.quietAt at h3
    unfold Oper.wp
    generalize (execOp a.eval o).run P w = r at *
    cases r with
    | ok n w' =>
      cases n <;> simp only [Oper.quietUpon] at h3 <;> simp only [Oper.upon]
      case value u => obtain ⟨e1, e2⟩ := h3; rw [e1, e2]; exact h
      case skip => obtain ⟨e1, e2⟩ := h3; rw [e1, ← e2]; exact h
      case enter f args =>
        obtain ⟨e1, hc⟩ := h3
        rw [e1]
        exact hc.mono fun e w'' ⟨he, hw''⟩ => by subst he; rw [hw'']; exact h
    | halt x w' => simp only [Oper.quietUpon] at h3
  · simp only [hw, Bool.false_eq_true, if_false]; exact h

/-- an operation apart from 'oi': whether 'oi''s value is there already makes no difference -/
theorem opF_put {j : Nat} {oi oj : Oper} {v : Value} (hj : ops[j]? = some oj) (hap : oi.apart ops oj = true) (hsi : ∀ cs b, oi.op ≠ .select cs b) (hsj : ∀ cs b, oj.op ≠ .select cs b) {K : Act → World → Prop} {a : Act} {w : World}
    (hy : Yv P ops C oi v a) (h : opF P ops j K (a.put oi.dst v) w) : opF P ops j (fun a' w' => Yv P ops C oi v a' ∧ K (a'.put oi.dst v) w') a w := by
  obtain ⟨h1, h2, h3⟩ := Oper.apart_spec hap
  have keep : ∀ u, Yv P ops C oi v (a.put oj.dst u) := fun u => hy.of_same (execOp_put oi hsi a oj.dst u h3) (wanted_put oi a oj.dst u h3)
  unfold opF at *
  simp only [hj] at *
  rw [wanted_put oj a oi.dst v h1] at h
  split
  · rename_i hw
    simp only [hw, if_true] at h
    unfold Oper.wp at *
    rw [execOp_put oj hsj a oi.dst v h1] at h
    generalize (execOp a.eval oj).run P w = r at *
    have hcomm : ∀ u, (a.put oi.dst v).put oj.dst u = (a.put oj.dst u).put oi.dst v := fun u => Act.put_comm a v u h2
    cases r with
    | ok x w' =>
      cases x <;> simp only [Oper.upon] at h ⊢
      case value u => exact ⟨keep u, by rw [← hcomm]; exact h⟩
      case skip => exact ⟨keep _, by rw [← hcomm]; exact h⟩
      case defer d =>
        refine ⟨?_, ?_⟩
        · have := keep undef
          refine this.of_same ?_ ?_ <;> cases oj.dst <;> rfl
        · have e : (({ a.put oi.dst v with defers := d :: (a.put oi.dst v).defers } : Act).put oj.dst undef) = ((({ a with defers := d :: a.defers } : Act).put oj.dst undef).put oi.dst v) := by
            cases hd : oi.dst with
            | none => rfl
            | some x =>
              cases hd' : oj.dst with
              | none => rfl
              | some y =>
                simp only [Act.put]
                rw [Array.setIfInBounds_comm]
                intro e
                exact h2 x hd (by rw [hd', e])
          rw [← e]; exact h
      case enter f args =>
        exact h.mono fun e w'' q => by
          cases e with
          | returned u => exact ⟨keep u, by rw [← hcomm]; exact q⟩
          | panicked c => exact q
          | outgrown => exact q
      case row row args => exact h.mono fun u w'' q => ⟨keep u, by rw [← hcomm]; exact q⟩
      all_goals exact h
    | halt x w' => cases x <;> exact h.elim
  · rename_i hw
    simp only [hw] at h
    exact ⟨keep _, by rw [← Act.put_comm a v undef h2]; exact h⟩

theorem T_first {K : Act → World → Prop} {i : Nat} {oi : Oper} {v : Value} (hi : ops[i]? = some oi) (hsel : ∀ (j : Nat) (o : Oper) cs b, ops[j]? = some o → o.op ≠ .select cs b) :
    ∀ (f : Nat) (listed : Array Bool) (a : Act) (w : World),
      (∀ j oj, ops[j]? = some oj → j ≠ i → listed.getD j true = false → (∀ e ∈ oj.after, Region.binds .any e = true → e.on ≠ i) → oi.apart ops oj = true) →
      i ∈ Region.ready .any ops listed → Yv P ops C oi v a → C w → T P ops C K f (listed.setIfInBounds i true) (a.put oi.dst v) w → T P ops C K (f + 1) listed a w := by
  intro f
  induction f with
  | zero =>
    intro listed a w _ hr hy hC H
    refine ⟨hC, fun h => (by rw [h] at hr; cases hr), fun j hj => ?_⟩
    by_cases hji : j = i
    · subst hji; exact hy.op hi hC H
    · have := ready_mono hj hji
      rw [H.2.1] at this
      cases this
  | succ f ih =>
    intro listed a w hfree hr hy hC H
    refine ⟨hC, fun h => (by rw [h] at hr; cases hr), fun j hj => ?_⟩
    by_cases hji : j = i
    · subst hji; exact hy.op hi hC H
    · have h1 := H.2.2 j (ready_mono hj hji)
      obtain ⟨hjun, oj, hoj, hall⟩ := mem_ready.1 hj
      have hnot : ∀ e ∈ oj.after, Region.binds .any e = true → e.on ≠ i := fun e he hb heq => by
        have h1 := hall e he hb
        have h0 := (mem_ready.1 hr).1
        rw [heq] at h1
        rcases Nat.lt_or_ge i listed.size with h' | h'
        · simp [h'] at h0 h1; rw [h0] at h1; cases h1
        · simp [Array.getElem?_eq_none h'] at h1
      have h2 := opF_put hoj (hfree j oj hoj hji hjun hnot) (fun cs b => hsel i oi cs b hi) (fun cs b => hsel j oj cs b hoj) hy h1
      have hfree' : ∀ k ok, ops[k]? = some ok → k ≠ i → (listed.setIfInBounds j true).getD k true = false →
          (∀ e ∈ ok.after, Region.binds .any e = true → e.on ≠ i) → oi.apart ops ok = true := fun k ok hk hki hun hno => by
        refine hfree k ok hk hki ?_ hno
        by_cases hjk : j = k
        · subst hjk; exact hjun
        · rw [getD_set_ne true hjk] at hun; exact hun
      refine opF_mono (fun a' w' h3 => ?_) h2
      obtain ⟨h4, h5⟩ := h3
      refine ih (listed.setIfInBounds j true) a' w' hfree' (ready_mono hr (Ne.symm hji)) h4 h5.cls ?_
      rw [Array.setIfInBounds_comm _ _ hji]
      exact h5

/-- the plan: each operation by its number, and whether it is taken first -/
def planB (ops : Array Oper) : List (Nat × Bool) → Array Bool → Bool
  | [], listed => (Region.ready .any ops listed).isEmpty
  | (i, true) :: r, listed => (Region.ready .any ops listed).contains i && Region.free .any ops listed i && planB ops r (listed.setIfInBounds i true)
  | (i, false) :: r, listed => decide (Region.ready .any ops listed = [i]) && planB ops r (listed.setIfInBounds i true)

def wpPlan (P : Program) (ops : Array Oper) (C : World → Prop) (K : Act → World → Prop) : List (Nat × Bool) → Act → World → Prop
  | [], a, w => K a w
  | (i, true) :: r, a, w => ∃ o v, ops[i]? = some o ∧ Yv P ops C o v a ∧ wpPlan P ops C K r (a.put o.dst v) w
  | (i, false) :: r, a, w => opF P ops i (fun a' w' => C w' ∧ wpPlan P ops C K r a' w') a w

theorem T_of_plan {K : Act → World → Prop} (hsel : Region.noSelect ops = true) : ∀ (p : List (Nat × Bool)) (listed : Array Bool) (a : Act) (w : World), planB ops p listed = true → C w → wpPlan P ops C K p a w → T P ops C K p.length listed a w
  | [], listed, a, w, hB, hC, h => ⟨hC, by simpa [planB] using hB, h⟩
  | (i, true) :: r, listed, a, w, hB, hC, h => by
    obtain ⟨o, v, ho, hy, h'⟩ := h
    simp only [planB, Bool.and_eq_true] at hB
    exact T_first ho (Region.noSelect_spec hsel) r.length listed a w (Region.free_spec ho hB.1.2) (by simpa using hB.1.1) hy hC (T_of_plan hsel r _ _ _ hB.2 hC h')
  | (i, false) :: r, listed, a, w, hB, hC, h => by
    simp only [planB, Bool.and_eq_true, decide_eq_true_eq] at hB
    refine ⟨hC, by rw [hB.1]; simp, fun j hj => ?_⟩
    rw [hB.1] at hj
    obtain rfl : j = i := by simpa using hj
    exact opF_mono (fun a' w' h' => T_of_plan hsel r _ _ _ hB.2 h'.1 h'.2) h
end

section
variable {P : Program} {n : Nat} {Q : Exit → Act → World → Prop} {σ : Env} {w : World} {ops : Array Oper} {C : World → Prop} {K : Act → World → Prop} {r : List (Nat × Bool)}

def WPl (P : Program) (n : Nat) (ops : Array Oper) (C : World → Prop) (K : Act → World → Prop) (p : List (Nat × Bool)) (σ : Env) (w : World) : Prop := ∀ a, Fits n σ a → wpPlan P ops C K p a w

theorem WC.plan {id : Nat} {l : List Oper} (C : World → Prop) (p : List (Nat × Bool)) (hm : P.follows .mixedOrders = true) (hB : (Region.noSelect l.toArray && decide (p.length = l.length) && planB l.toArray p (Array.replicate l.length false)) = true) (hC : C w.drew)
    (h : C w.drew → WPl P n l.toArray C (fun a w' => C w' → Q .normal a w') p σ w.drew) : WC P n (.region id l.toArray true) Q σ w := fun a ha => by
  simp only [Bool.and_eq_true, decide_eq_true_eq] at hB
  refine wp_region_any hm ?_
  have := wpAny_of_T (Q := Q) (fun a w hC h => h hC) _ _ _ _ (T_of_plan hB.1.1 p _ a w.drew hB.2 hC (h hC a ha))
  rw [hB.1.2] at this
  simpa using this

theorem WPl.nil (h : C w → WN n (Q .normal) σ w) : WPl P n ops C (fun a w' => C w' → Q .normal a w') [] σ w := fun a ha hC => h hC a ha
theorem WPl.q {i d : Nat} {o : Oper} {v : Value} (ho : ops[i]? = some o) (hd : o.dst = some d) (hn : Nat.blt d n = true) (hw : Wt ops o σ true) (he : ∀ w', C w' → Ex P n o σ w' v w') (h : WPl P n ops C K r ((d, v) :: σ) w) : WPl P n ops C K ((i, true) :: r) σ w := fun a ha =>
  ⟨o, v, ho, .inl ⟨hw n a ha, fun w' hw' => by unfold Oper.quietAt; rw [he w' hw' a ha]; exact ⟨rfl, rfl⟩⟩, by rw [hd]; exact h _ (ha.put hn v)⟩
theorem WPl.pass {i d : Nat} {o : Oper} (ho : ops[i]? = some o) (hd : o.dst = some d) (hn : Nat.blt d n = true) (hw : Wt ops o σ false) (h : WPl P n ops C K r ((d, undef) :: σ) w) : WPl P n ops C K ((i, true) :: r) σ w := fun a ha =>
  ⟨o, undef, ho, .inr ⟨hw n a ha, rfl⟩, by rw [hd]; exact h _ (ha.put hn undef)⟩
theorem WPl.qcall {i f : Nat} {fo : Operand} {args : List Operand} {ats : Array TypeId} {vs cs : List Value} {d : Nat} {ty : TypeId} {pos : String} {af : Array Edge} {g : Option (Nat × Bool)} {v : Value}
    (ho : ops[i]? = some ⟨some d, .call { callee := .value fo, args := args.toArray, argTypes := ats }, ty, pos, af, g⟩) (hc : Callable P f) (hn : Nat.blt d n = true) (hw : Wt ops ⟨some d, .call { callee := .value fo, args := args.toArray, argTypes := ats }, ty, pos, af, g⟩ σ true)
    (hf : ev σ fo = some (.func (.func f) #[] cs.toArray)) (hv : evs σ args = some vs) (hk : ∀ w', C w' → Fn P f (vs ++ cs) w' (fun v' w1 => v' = v ∧ w1 = w'))
    (h : WPl P n ops C K r ((d, v) :: σ) w) : WPl P n ops C K ((i, true) :: r) σ w := fun a ha =>
  ⟨_, v, ho, .inl ⟨hw n a ha, fun w' hw' => by
    unfold Oper.quietAt
    rw [exec_call hc ha hf hv]
    refine ⟨rfl, Calls.mono (hk w' hw') fun e w'' r => ?_⟩
    cases e with
    | returned u => exact ⟨by rw [r.1], r.2⟩
    | panicked _ => exact r.elim
    | outgrown => exact r.elim⟩, h _ (ha.put hn v)⟩
theorem Ex.loadK {d : Option Nat} {ty : TypeId} {pos : String} {af : Array Edge} {g : Option (Nat × Bool)} {x : Operand} {t : TypeId} {b off : Nat} {v : Value} {cs : Array Value} {e : TypeId} {fr : Nat × Nat} {T : List Nat} {w w' : World} (ht : Flat P t) (hx : ev σ x = some (vptr b off)) (hb : w.heap[b]? = some (.cells cs e fr)) (hk : Keep T w w') (hn : b ∉ T) (hc : cs[off]? = some v) : Ex P n ⟨d, .load t x, ty, pos, af, g⟩ σ w' v w' :=
  Ex.load ht hx ((cell_of_row w' b off cs e fr (hk.heap hb hn)).trans hc)
theorem Hp.ro1 {α : Type} {r : Rep α} {w0 w w' : World} {L : List (Nat × Obj)} {q : Nat × Obj} {a : Option Addr} {l : List α} (h : Hp [] w0 w L) (j : Nat) (hj : L[j]? = some q) (hC : Keep [q.1] w w') (hg : Sl r w0 a l) : Sl r w' a l := by
  have hq : w0.heap.size ≤ q.1 := (h.own q (List.mem_of_getElem? hj)).resolve_right (by simp)
  have h1 := hg.kept h.keep
  refine ⟨hg.1, ?_⟩
  rcases hg.2 with h2 | ⟨b, off, e, hc⟩
  · exact .inl h2
  · refine .inr ⟨b, off, e, fun j u hu => hC.cell (h.keep.cell (hc j u hu) (by simp)) ?_⟩
    have := World.block_lt_of_cell? w0 _ (hc j u hu)
    simp only [List.mem_singleton]
    intro e
    simp only [e] at this
    omega
/-- an operation that is forced: by its own step lemma -/
theorem WPl.f {i : Nat} {o : Oper} (ho : ops[i]? = some o) (h : WL P n ops (Exit.then (fun a' w' => C w' ∧ wpPlan P ops C K r a' w') NoExit) [o] σ w) : WPl P n ops C K ((i, false) :: r) σ w := fun a ha => by
  have := h a ha
  unfold wpPlan opF
  simp only [ho]
  unfold wpList at this
  split
  · rename_i hw
    rw [if_pos hw] at this
    rcases this with h1 | ⟨_, a', w', h2⟩
    · exact h1
    · exact h2.elim
  · rename_i hw
    rw [if_neg hw] at this
    exact this
theorem WPl.b (hC : C w) (h : WPl P n ops C K r σ w) : WL P n ops (Exit.then (fun a' w' => C w' ∧ wpPlan P ops C K r a' w') NoExit) [] σ w := fun a ha => ⟨hC, h a ha⟩
end
end Go.Proofs.Ytjejdebmlgjdeaa
