/- Regions that draw their order. -/
import Derived.Test.YtjejdebmlgjdeaaWl
import Derived.StillTail
namespace Go.Proofs.Ytjejdebmlgjdeaa
set_option maxRecDepth 100000
set_option linter.unusedSimpArgs false
set_option linter.unusedVariables false
open Go Go.RowKit

/-- w' is w after some draws -/
def Dr (w w' : World) : Prop := ∃ m, w' = w.drewN m
theorem Dr.refl (w : World) : Dr w w := ⟨0, rfl⟩
theorem Dr.trans {a b c : World} (h : Dr a b) (k : Dr b c) : Dr a c := by
  obtain ⟨m, rfl⟩ := h; obtain ⟨l, rfl⟩ := k; exact ⟨m + l, by rw [World.drewN_drewN]⟩
theorem Dr.drew (w : World) : Dr w w.drew := ⟨1, rfl⟩
theorem Dr.heap {w w' : World} (h : Dr w w') : w'.heap = w.heap := by obtain ⟨m, rfl⟩ := h; rfl
theorem Dr.keep {w w' : World} (h : Dr w w') (S : List Nat) : Keep S w w' := by obtain ⟨m, rfl⟩ := h; exact ⟨rfl, rfl, rfl, Nat.le_refl _, fun _ _ _ => rfl⟩
theorem Hp.dr {S : List Nat} {w0 w w' : World} {L : List (Nat × Obj)} (h : Hp S w0 w L) (d : Dr w w') : Hp S w0 w' L := h.call (d.keep [])
theorem Sl.dr {α : Type} {r : Rep α} {w w' : World} {a : Option Addr} {l : List α} (h : Sl r w a l) (d : Dr w w') : Sl r w' a l := h.kept (d.keep [])

section
variable {P : Program} {n : Nat} {Q : Exit → Act → World → Prop} {Qa : Act → Prop} {σ : Env} {w : World} {ops : Array Oper} {rest : List Oper} {o : Oper}

def WQ (P : Program) (n : Nat) (ops : Array Oper) (C : World → Prop) (Qa : Act → Prop) (l : List Oper) (σ : Env) : Prop := ∀ a, Fits n σ a → wpQuiet P ops C Qa l a
def WS (P : Program) (n : Nat) (ops : Array Oper) (w : World) (Qa : Act → Prop) (l : List Oper) (σ : Env) : Prop := ∀ a, Fits n σ a → wpStill P ops w Qa l a

theorem WC.quiet {id : Nat} {l : List Oper} (hm : P.follows .mixedOrders = true) (hB : Region.lexB .any l.toArray = true) (h : WQ P n l.toArray (Dr w) (fun a' => ∀ w', Dr w w' → Q .normal a' w') l σ) : WC P n (.region id l.toArray true) Q σ w :=
  fun a ha => wp_region_quiet (C := Dr w) hm hB (Dr.drew w) (by simpa using h a ha)
theorem WC.quietK {id : Nat} {l : List Oper} (hm : P.follows .mixedOrders = true) (hB : Region.lexB .any l.toArray = true) (h : WQ P n l.toArray (Keep [] w) (fun a' => ∀ w', Keep [] w w' → Q .normal a' w') l σ) : WC P n (.region id l.toArray true) Q σ w :=
  fun a ha => wp_region_quiet (C := Keep [] w) hm hB (Keep.drew [] w) (by simpa using h a ha)
theorem WC.tail {id : Nat} {l : List Oper} (k : Nat) (hm : P.follows .mixedOrders = true) (hB : Region.lexTailB .any l.toArray k = true) (h : WS P n l.toArray w.drew (fun a' => wpList P l.toArray Q (l.drop k) a' w.drew) (l.take k) σ) : WC P n (.region id l.toArray true) Q σ w :=
  fun a ha => wp_region_still_tail k hm hB (h a ha)

theorem WQ.nil {C : World → Prop} (h : ∀ w', C w' → WN n (Q .normal) σ w') : WQ P n ops C (fun a' => ∀ w', C w' → Q .normal a' w') [] σ := fun a ha w' hw => h w' hw a ha
theorem WS.nil {l : List Oper} (h : WL P n ops Q l σ w) : WS P n ops w (fun a' => wpList P ops Q l a' w) [] σ := h

theorem WQ.u {d : Nat} {v : Value} {C : World → Prop} (hd : o.dst = some d) (hn : Nat.blt d n = true) (hw : Wt ops o σ true) (he : ∀ w', C w' → Ex P n o σ w' v w') (h : WQ P n ops C Qa rest ((d, v) :: σ)) : WQ P n ops C Qa (o :: rest) σ := fun a ha => by
  unfold wpQuiet
  rw [if_pos (hw n a ha)]
  refine ⟨v, fun w' hw' => ?_, ?_⟩
  · unfold Oper.quietAt
    rw [he w' hw' a ha]
    exact ⟨rfl, rfl⟩
  · rw [hd]; exact h _ (ha.put hn v)
theorem WS.u {d : Nat} {v : Value} (hd : o.dst = some d) (hn : Nat.blt d n = true) (hw : Wt ops o σ true) (he : Ex P n o σ w v w) (h : WS P n ops w Qa rest ((d, v) :: σ)) : WS P n ops w Qa (o :: rest) σ := fun a ha => by
  unfold wpStill
  rw [if_pos (hw n a ha)]
  unfold Oper.still
  rw [he a ha]
  exact ⟨rfl, by rw [hd]; exact h _ (ha.put hn v)⟩
theorem WQ.pass {d : Nat} {C : World → Prop} (hd : o.dst = some d) (hn : Nat.blt d n = true) (hw : Wt ops o σ false) (h : WQ P n ops C Qa rest ((d, undef) :: σ)) : WQ P n ops C Qa (o :: rest) σ := fun a ha => by
  unfold wpQuiet
  rw [if_neg (by rw [hw n a ha]; simp), hd]
  exact h _ (ha.put hn undef)
theorem WS.pass {d : Nat} (hd : o.dst = some d) (hn : Nat.blt d n = true) (hw : Wt ops o σ false) (h : WS P n ops w Qa rest ((d, undef) :: σ)) : WS P n ops w Qa (o :: rest) σ := fun a ha => by
  unfold wpStill
  rw [if_neg (by rw [hw n a ha]; simp), hd]
  exact h _ (ha.put hn undef)

/-- a guard's two ways -/
theorem WL.split {l : List Oper} {t : Nat} {c : Bool} (_h : look σ t = some (.bool c)) (ht : c = true → WL P n ops Q l σ w) (hf : c = false → WL P n ops Q l σ w) : WL P n ops Q l σ w := by cases c; exact hf rfl; exact ht rfl
theorem WQ.split {C : World → Prop} {l : List Oper} {t : Nat} {c : Bool} (_h : look σ t = some (.bool c)) (ht : c = true → WQ P n ops C Qa l σ) (hf : c = false → WQ P n ops C Qa l σ) : WQ P n ops C Qa l σ := by cases c; exact hf rfl; exact ht rfl
theorem WS.split {l : List Oper} {t : Nat} {c : Bool} (_h : look σ t = some (.bool c)) (ht : c = true → WS P n ops w Qa l σ) (hf : c = false → WS P n ops w Qa l σ) : WS P n ops w Qa l σ := by cases c; exact hf rfl; exact ht rfl

/-- a contract in a class of worlds: E (the world is as it was), R (after draws), H (kept) -/
theorem Fn.e {f : FuncId} {args : List Value} {v : Value} {w : World} {C : World → Prop} (c : C w) (h : Fn P f args w (fun v' w1 => v' = v ∧ w1 = w)) : Fn P f args w (fun v' w1 => v' = v ∧ C w1) := h.mono fun _ _ ⟨h1, h2⟩ => ⟨h1, by rw [h2]; exact c⟩
theorem Fn.r {f : FuncId} {args : List Value} {v : Value} {w0 w : World} (c : Dr w0 w) (h : Fn P f args w (fun v' w1 => v' = v ∧ Dr w w1)) : Fn P f args w (fun v' w1 => v' = v ∧ Dr w0 w1) := h.mono fun _ _ ⟨h1, h2⟩ => ⟨h1, c.trans h2⟩
theorem Fn.rk {f : FuncId} {args : List Value} {v : Value} {w0 w : World} (c : Keep [] w0 w) (h : Fn P f args w (fun v' w1 => v' = v ∧ Dr w w1)) : Fn P f args w (fun v' w1 => v' = v ∧ Keep [] w0 w1) := h.mono fun _ _ ⟨h1, h2⟩ => ⟨h1, c.trans (h2.keep [])⟩
theorem Fn.k {f : FuncId} {args : List Value} {v : Value} {w0 w : World} (c : Keep [] w0 w) (h : Fn P f args w (fun v' w1 => v' = v ∧ Keep [] w w1)) : Fn P f args w (fun v' w1 => v' = v ∧ Keep [] w0 w1) := h.mono fun _ _ ⟨h1, h2⟩ => ⟨h1, c.trans h2⟩
theorem WQ.call {f : FuncId} {fo : Operand} {args : List Operand} {ats : Array TypeId} {vs cs : List Value} {d : Nat} {ty : TypeId} {pos : String} {af : Array Edge} {g : Option (Nat × Bool)} {v : Value} {C : World → Prop}
    (hc : Callable P f) (hn : Nat.blt d n = true) (hw : Wt ops ⟨some d, .call { callee := .value fo, args := args.toArray, argTypes := ats }, ty, pos, af, g⟩ σ true)
    (hf : ev σ fo = some (.func (.func f) #[] cs.toArray)) (hv : evs σ args = some vs) (hk : ∀ w', C w' → Fn P f (vs ++ cs) w' (fun v' w1 => v' = v ∧ C w1))
    (h : WQ P n ops C Qa rest ((d, v) :: σ)) : WQ P n ops C Qa (⟨some d, .call { callee := .value fo, args := args.toArray, argTypes := ats }, ty, pos, af, g⟩ :: rest) σ := fun a ha => by
  unfold wpQuiet
  rw [if_pos (hw n a ha)]
  refine ⟨v, fun w' hw' => ?_, h _ (ha.put hn v)⟩
  unfold Oper.quietAt
  rw [exec_call hc ha hf hv]
  refine ⟨rfl, Calls.mono (hk w' hw') fun e w'' r => ?_⟩
  cases e with
  | returned u => exact ⟨by rw [r.1], r.2⟩
  | panicked _ => exact r.elim
  | outgrown => exact r.elim
theorem WS.call {f : FuncId} {fo : Operand} {args : List Operand} {ats : Array TypeId} {vs cs : List Value} {d : Nat} {ty : TypeId} {pos : String} {af : Array Edge} {g : Option (Nat × Bool)} {v : Value}
    (hc : Callable P f) (hn : Nat.blt d n = true) (hw : Wt ops ⟨some d, .call { callee := .value fo, args := args.toArray, argTypes := ats }, ty, pos, af, g⟩ σ true)
    (hf : ev σ fo = some (.func (.func f) #[] cs.toArray)) (hv : evs σ args = some vs) (hk : Fn P f (vs ++ cs) w (fun v' w1 => v' = v ∧ w1 = w))
    (h : WS P n ops w Qa rest ((d, v) :: σ)) : WS P n ops w Qa (⟨some d, .call { callee := .value fo, args := args.toArray, argTypes := ats }, ty, pos, af, g⟩ :: rest) σ := fun a ha => by
  unfold wpStill
  rw [if_pos (hw n a ha)]
  unfold Oper.still
  rw [exec_call hc ha hf hv]
  refine ⟨rfl, v, Calls.mono hk fun e w'' r => ?_, h _ (ha.put hn v)⟩
  cases e with
  | returned u => exact ⟨by rw [r.1], r.2⟩
  | panicked _ => exact r.elim
  | outgrown => exact r.elim

section
variable {S : List Nat} {w0 : World} {L : List (Nat × Obj)} {d : Option Nat} {ty : TypeId} {pos : String} {af : Array Edge} {g : Option (Nat × Bool)} {x : Operand} {t : TypeId}
theorem Ex.loadHp {b off : Nat} {v : Value} {cs : Array Value} {e : TypeId} {fr : Nat × Nat} (ht : Flat P t) (hx : ev σ x = some (vptr b off)) (hH : Hp S w0 w ((b, .cells cs e fr) :: L)) (hc : cs[off]? = some v) : Ex P n ⟨d, .load t x, ty, pos, af, g⟩ σ w v w :=
  Ex.load ht hx ((cell_of_row w b off cs e fr (hH.at 0 rfl)).trans hc)
theorem Ex.loadHp2 {b : Nat} {u v : Value} {e : TypeId} {fr : Nat × Nat} {z : Value} {by' : Nat} {fs : Array Field} (ht : P.underlying t = some (.struct fs)) (hz : Ty P t z 2 by') (hx : ev σ x = some (vptr b 0)) (hH : Hp S w0 w ((b, .cells #[u, v] e fr) :: L)) : Ex P n ⟨d, .load t x, ty, pos, af, g⟩ σ w (.agg #[u, v]) w := fun a ha => by
  obtain ⟨i, h1, h2, h3, h4⟩ := hz
  have hb := hH.at 0 rfl
  have c0 : w.cell? ⟨b, 0, none⟩ = some u := by rw [cell_of_row w b 0 _ e fr hb]; rfl
  have c1 : w.cell? ⟨b, 1, none⟩ = some v := by rw [cell_of_row w b 1 _ e fr hb]; rfl
  have hl : (loadCells ⟨b, 0, none⟩ 2).run P w = .ok #[u, v] w := by
    have := run_loadCells_list (P := P) (w := w) ⟨b, 0, none⟩ [u, v] (fun j y hy => by
      rw [Addr.add_lit]
      match j, hy with
      | 0, hy => simp at hy; subst hy; exact c0
      | 1, hy => simp at hy; subst hy; exact c1
      | j + 2, hy => simp at hy)
    exact this
  simp [execOp, ha.evl hx, Instr.loadAt, Instr.sureAddr, loadVar, isAgg, run_underlying ht, sizeOf, typeInfo, h1, h3, hl]
end
end
end Go.Proofs.Ytjejdebmlgjdeaa
