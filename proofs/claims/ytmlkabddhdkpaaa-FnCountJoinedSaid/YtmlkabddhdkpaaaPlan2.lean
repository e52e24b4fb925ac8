/- Plans that part: two operations may come first, each order is walked. -/
import Derived.Test.YtmlkabddhdkpaaaBase
namespace Go.Proofs.Ytmlkabddhdkpaaa
set_option maxRecDepth 100000
set_option linter.unusedSimpArgs false
set_option linter.unusedVariables false
open Go Go.RowKit

inductive PT
  | nil
  | q (i : Nat) (p : PT)
  | f (i : Nat) (p : PT)
  | alt (i j : Nat) (p1 p2 : PT)
def PT.len : PT → Nat
  | .nil => 0
  | .q _ p => p.len + 1
  | .f _ p => p.len + 1
  | .alt _ _ p1 _ => p1.len + 1
def ptB (ops : Array Oper) : PT → Array Bool → Bool
  | .nil, listed => (Region.ready .any ops listed).isEmpty
  | .q i r, listed => (Region.ready .any ops listed).contains i && Region.free .any ops listed i && ptB ops r (listed.setIfInBounds i true)
  | .f i r, listed => decide (Region.ready .any ops listed = [i]) && ptB ops r (listed.setIfInBounds i true)
  | .alt i j p1 p2, listed => decide (Region.ready .any ops listed = [i, j]) && (decide (p1.len = p2.len) && (ptB ops p1 (listed.setIfInBounds i true) && ptB ops p2 (listed.setIfInBounds j true)))
section
variable {P : Program} {ops : Array Oper} {C : World → Prop}
def wpPT (P : Program) (ops : Array Oper) (C : World → Prop) (K : Act → World → Prop) : PT → Act → World → Prop
  | .nil, a, w => K a w
  | .q i r, a, w => ∃ o v, ops[i]? = some o ∧ Yv P ops C o v a ∧ wpPT P ops C K r (a.put o.dst v) w
  | .f i r, a, w => opF P ops i (fun a' w' => C w' ∧ wpPT P ops C K r a' w') a w
  | .alt i j p1 p2, a, w => opF P ops i (fun a' w' => C w' ∧ wpPT P ops C K p1 a' w') a w ∧ opF P ops j (fun a' w' => C w' ∧ wpPT P ops C K p2 a' w') a w
theorem T_of_pt {K : Act → World → Prop} (hsel : Region.noSelect ops = true) : ∀ (p : PT) (listed : Array Bool) (a : Act) (w : World), ptB ops p listed = true → C w → wpPT P ops C K p a w → T P ops C K p.len listed a w
  | .nil, listed, a, w, hB, hC, h => ⟨hC, by simpa [ptB] using hB, h⟩
  | .q i r, listed, a, w, hB, hC, h => by
    obtain ⟨o, v, ho, hy, h'⟩ := h
    simp only [ptB, Bool.and_eq_true] at hB
    exact T_first ho (Region.noSelect_spec hsel) r.len listed a w (Region.free_spec ho hB.1.2) (by simpa using hB.1.1) hy hC (T_of_pt hsel r _ _ _ hB.2 hC h')
  | .f i r, listed, a, w, hB, hC, h => by
    simp only [ptB, Bool.and_eq_true, decide_eq_true_eq] at hB
    refine ⟨hC, by rw [hB.1]; simp, fun j hj => ?_⟩
    rw [hB.1] at hj
    obtain rfl : j = i := by simpa using hj
    exact opF_mono (fun a' w' h' => T_of_pt hsel r _ _ _ hB.2 h'.1 h'.2) h
  | .alt i j p1 p2, listed, a, w, hB, hC, h => by
    simp only [ptB, Bool.and_eq_true, decide_eq_true_eq] at hB
    obtain ⟨h1, h2, h3, h4⟩ := hB
    refine ⟨hC, by rw [h1]; simp, fun k hk => ?_⟩
    rw [h1] at hk
    rcases List.mem_cons.1 hk with e | hk
    · subst e
      exact opF_mono (fun a' w' h' => T_of_pt hsel p1 _ _ _ h3 h'.1 h'.2) h.1
    · rw [List.mem_singleton.1 hk]
      exact opF_mono (fun a' w' h' => by rw [h2]; exact T_of_pt hsel p2 _ _ _ h4 h'.1 h'.2) h.2
end

theorem Wt.undef {ops : Array Oper} {o : Oper} {σ : Env} {j t : Nat} {b : Bool} (h : o.guard = some (j, b)) (h1 : (ops[j]?).bind (·.dst) = some t) (h2 : look σ t = some undef) : Wt ops o σ false := fun _ a ha => by
  have h3 := ha.val t _ h2
  have hy : yielded ops a.tmps j = none := by
    unfold Go.yielded
    rw [h1, Option.bind_some]
    rw [Array.getD_eq_getD_getElem?] at h3
    cases h4 : a.tmps[t]? with
    | none => rfl
    | some u =>
      rw [h4, Option.getD_some] at h3
      subst h3
      rfl
  simp [Region.wanted, h, hy]
section
variable {P : Program} {n : Nat} {Q : Exit → Act → World → Prop} {σ : Env} {w : World} {ops : Array Oper} {C : World → Prop} {K : Act → World → Prop} {r p1 p2 : PT}
def WPt (P : Program) (n : Nat) (ops : Array Oper) (C : World → Prop) (K : Act → World → Prop) (p : PT) (σ : Env) (w : World) : Prop := ∀ a, Fits n σ a → wpPT P ops C K p a w
theorem WC.ptree {id : Nat} {l : List Oper} (C : World → Prop) (p : PT) (hm : P.follows .mixedOrders = true) (hB : (Region.noSelect l.toArray && decide (p.len = l.length) && ptB l.toArray p (Array.replicate l.length false)) = true) (hC : C w.drew)
    (h : C w.drew → WPt P n l.toArray C (fun a w' => C w' → Q .normal a w') p σ w.drew) : WC P n (.region id l.toArray true) Q σ w := fun a ha => by
  simp only [Bool.and_eq_true, decide_eq_true_eq] at hB
  refine wp_region_any hm ?_
  have := wpAny_of_T (Q := Q) (fun a w hC h => h hC) _ _ _ _ (T_of_pt hB.1.1 p _ a w.drew hB.2 hC (h hC a ha))
  rw [hB.1.2] at this
  simpa using this
theorem WPt.nil (h : C w → WN n (Q .normal) σ w) : WPt P n ops C (fun a w' => C w' → Q .normal a w') .nil σ w := fun a ha hC => h hC a ha
theorem WPt.q {i d : Nat} {o : Oper} {v : Value} (ho : ops[i]? = some o) (hd : o.dst = some d) (hn : Nat.blt d n = true) (hw : Wt ops o σ true) (he : ∀ w', C w' → Ex P n o σ w' v w') (h : WPt P n ops C K r ((d, v) :: σ) w) : WPt P n ops C K (.q i r) σ w := fun a ha =>
  ⟨o, v, ho, .inl ⟨hw n a ha, fun w' hw' => by unfold Oper.quietAt; rw [he w' hw' a ha]; exact ⟨rfl, rfl⟩⟩, by rw [hd]; exact h _ (ha.put hn v)⟩
theorem WPt.pass {i d : Nat} {o : Oper} (ho : ops[i]? = some o) (hd : o.dst = some d) (hn : Nat.blt d n = true) (hw : Wt ops o σ false) (h : WPt P n ops C K r ((d, undef) :: σ) w) : WPt P n ops C K (.q i r) σ w := fun a ha =>
  ⟨o, undef, ho, .inr ⟨hw n a ha, rfl⟩, by rw [hd]; exact h _ (ha.put hn undef)⟩
theorem opF_of_WL {i : Nat} {o : Oper} {K' : Act → World → Prop} (ho : ops[i]? = some o) {a : Act} (ha : Fits n σ a) (h : WL P n ops (Exit.then K' NoExit) [o] σ w) : opF P ops i K' a w := by
  have := h a ha
  unfold opF
  simp only [ho]
  unfold wpList at this
  split
  · rename_i hw
    rw [if_pos hw] at this
    rcases this with h1 | ⟨_, a', w', h2⟩
    · exact h1
    · exact h2.elim
  · rename_i hw
    rw [if_neg hw] at this
    exact this
theorem WPt.f {i : Nat} {o : Oper} (ho : ops[i]? = some o) (h : WL P n ops (Exit.then (fun a' w' => C w' ∧ wpPT P ops C K r a' w') NoExit) [o] σ w) : WPt P n ops C K (.f i r) σ w := fun _ ha => opF_of_WL ho ha h
theorem WPt.alt {i j : Nat} {o o' : Oper} (ho : ops[i]? = some o) (ho' : ops[j]? = some o') (h : WL P n ops (Exit.then (fun a' w' => C w' ∧ wpPT P ops C K p1 a' w') NoExit) [o] σ w) (h' : WL P n ops (Exit.then (fun a' w' => C w' ∧ wpPT P ops C K p2 a' w') NoExit) [o'] σ w) : WPt P n ops C K (.alt i j p1 p2) σ w := fun _ ha => ⟨opF_of_WL ho ha h, opF_of_WL ho' ha h'⟩
theorem WPt.b (hC : C w) (h : WPt P n ops C K r σ w) : WL P n ops (Exit.then (fun a' w' => C w' ∧ wpPT P ops C K r a' w') NoExit) [] σ w := fun a ha => ⟨hC, h a ha⟩
theorem WPt.qcall {i f : Nat} {fo : Operand} {args : List Operand} {ats : Array TypeId} {vs cs : List Value} {d : Nat} {ty : TypeId} {pos : String} {af : Array Edge} {g : Option (Nat × Bool)} {v : Value}
    (ho : ops[i]? = some ⟨some d, .call { callee := .value fo, args := args.toArray, argTypes := ats }, ty, pos, af, g⟩) (hc : Callable P f) (hn : Nat.blt d n = true) (hw : Wt ops ⟨some d, .call { callee := .value fo, args := args.toArray, argTypes := ats }, ty, pos, af, g⟩ σ true)
    (hf : ev σ fo = some (.func (.func f) #[] cs.toArray)) (hv : evs σ args = some vs) (hk : ∀ w', C w' → Fn P f (vs ++ cs) w' (fun v' w1 => v' = v ∧ w1 = w'))
    (h : WPt P n ops C K r ((d, v) :: σ) w) : WPt P n ops C K (.q i r) σ w := fun a ha =>
  ⟨_, v, ho, .inl ⟨hw n a ha, fun w' hw' => by
    unfold Oper.quietAt
    rw [exec_call hc ha hf hv]
    refine ⟨rfl, Calls.mono (hk w' hw') fun e w'' r => ?_⟩
    cases e with
    | returned u => exact ⟨by rw [r.1], r.2⟩
    | panicked _ => exact r.elim
    | outgrown => exact r.elim⟩, h _ (ha.put hn v)⟩
theorem Ex.loadK2 {d : Option Nat} {ty : TypeId} {pos : String} {af : Array Edge} {g : Option (Nat × Bool)} {x : Operand} {t : TypeId} {b : Nat} {u v : Value} {e : TypeId} {fr : Nat × Nat} {z : Value} {by' : Nat} {fs : Array Field} {T : List Nat} {w' : World} (ht : P.underlying t = some (.struct fs)) (hz : Ty P t z 2 by') (hx : ev σ x = some (vptr b 0)) (hb : w.heap[b]? = some (.cells #[u, v] e fr)) (hk : Keep T w w') (hn : b ∉ T) : Ex P n ⟨d, .load t x, ty, pos, af, g⟩ σ w' (.agg #[u, v]) w' := fun a ha => by
  obtain ⟨i, h1, h2, h3, h4⟩ := hz
  have hb := hk.heap hb hn
  have c0 : w'.cell? ⟨b, 0, none⟩ = some u := by rw [cell_of_row w' b 0 _ e fr hb]; rfl
  have c1 : w'.cell? ⟨b, 1, none⟩ = some v := by rw [cell_of_row w' b 1 _ e fr hb]; rfl
  have hl : (loadCells ⟨b, 0, none⟩ 2).run P w' = .ok #[u, v] w' := by
    have := run_loadCells_list (P := P) (w := w') ⟨b, 0, none⟩ [u, v] (fun j y hy => by
      rw [Addr.add_lit]
      match j, hy with
      | 0, hy => simp at hy; subst hy; exact c0
      | 1, hy => simp at hy; subst hy; exact c1
      | j + 2, hy => simp at hy)
    exact this
  simp [execOp, ha.evl hx, Instr.loadAt, Instr.sureAddr, loadVar, isAgg, run_underlying ht, sizeOf, typeInfo, h1, h3, hl]
end
end Go.Proofs.Ytmlkabddhdkpaaa
