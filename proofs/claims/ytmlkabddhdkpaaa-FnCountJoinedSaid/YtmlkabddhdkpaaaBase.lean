/- The core of the seat's own program logic: sparse frames and step lemmas over the kit's weakest preconditions. -/
import Derived.WalkKit
import Derived.Deep.QuietTactic
import Derived.Deep.LoopGhost
import Derived.StillTail
namespace Go.Proofs.Ytmlkabddhdkpaaa
set_option maxRecDepth 100000
set_option linter.unusedSimpArgs false
set_option linter.unusedVariables false
open Go Go.RowKit

abbrev Env := List (Nat × Value)

def look : Env → Nat → Option Value
  | [], _ => none
  | (k, v) :: r, i => bif Nat.beq k i then some v else look r i

structure Fits (n : Nat) (σ : Env) (a : Act) : Prop where
  defers : a.defers = []
  size : a.tmps.size = n
  val : ∀ i v, look σ i = some v → a.tmps.getD i undef = v

def ev (σ : Env) : Operand → Option Value
  | .tmp t => look σ t
  | .const v => some v
  | .global g => some (.pointer (some ⟨g, 0, none⟩))
  | .func f => some (.func (.func f) #[] #[])

theorem Fits.evl {n : Nat} {σ : Env} {a : Act} {x : Operand} {v : Value} (h : Fits n σ a) (e : ev σ x = some v) : a.eval x = v := by
  cases x with
  | tmp t => exact h.val t v e
  | const c => exact Option.some.inj e
  | global g => exact Option.some.inj e
  | func f => exact Option.some.inj e

theorem look_cons (k : Nat) (u : Value) (σ : Env) (i : Nat) : look ((k, u) :: σ) i = if k = i then some u else look σ i := by
  rw [look]
  cases h : Nat.beq k i
  · rw [if_neg (Nat.ne_of_beq_eq_false h)]; rfl
  · rw [if_pos (Nat.eq_of_beq_eq_true h)]; rfl

theorem Fits.put {n : Nat} {σ : Env} {a : Act} (h : Fits n σ a) {d : Nat} (hd : Nat.blt d n = true) (v : Value) : Fits n ((d, v) :: σ) (a.put (some d) v) := by
  have hd' : d < n := by simpa using hd
  refine ⟨h.defers, by simpa [Act.put] using h.size, fun i u hu => ?_⟩
  rw [look_cons] at hu
  simp only [Act.put]
  by_cases e : d = i
  · subst e
    rw [if_pos rfl] at hu
    simp only [Option.some.injEq] at hu
    subst hu
    simp [h.size, hd']
  · rw [if_neg e] at hu
    have := h.val i u hu
    rw [← this]
    simp [Array.getD_eq_getD_getElem?, Array.getElem?_setIfInBounds, e]

theorem Fits.putNone {n : Nat} {σ : Env} {a : Act} (h : Fits n σ a) (v : Value) : Fits n σ (a.put none v) := h

/-- every slot that τ names reads so in σ -/
def Sub (σ : Env) : Env → Prop
  | [] => True
  | (k, v) :: r => look σ k = some v ∧ Sub σ r

theorem Sub.look {σ : Env} : ∀ {τ : Env}, Sub σ τ → ∀ i v, look τ i = some v → look σ i = some v
  | [], _, i, v, h => by simp [Go.Proofs.Ytmlkabddhdkpaaa.look] at h
  | (k, u) :: r, hs, i, v, h => by
    rw [look_cons] at h
    by_cases e : k = i
    · subst e; rw [if_pos rfl] at h; rw [← h]; exact hs.1
    · rw [if_neg e] at h; exact Sub.look hs.2 i v h

theorem Fits.sub {n : Nat} {σ τ : Env} {a : Act} (h : Fits n σ a) (hs : Sub σ τ) : Fits n τ a := ⟨h.defers, h.size, fun i v e => h.val i v (hs.look i v e)⟩

section
variable {P : Program} {n : Nat}

def WL (P : Program) (n : Nat) (ops : Array Oper) (Q : Exit → Act → World → Prop) (l : List Oper) (σ : Env) (w : World) : Prop := ∀ a, Fits n σ a → wpList P ops Q l a w
def WC (P : Program) (n : Nat) (c : Code) (Q : Exit → Act → World → Prop) (σ : Env) (w : World) : Prop := ∀ a, Fits n σ a → c.wp P Q a w
/-- what follows a region or a loop that ends normally -/
def WN (n : Nat) (K : Act → World → Prop) (σ : Env) (w : World) : Prop := ∀ a, Fits n σ a → K a w

def Ret (S : Value → World → Prop) : Ending → World → Prop
  | .returned v, w => S v w
  | _, _ => False

theorem Ret.mono {S S' : Value → World → Prop} (h : ∀ v w, S v w → S' v w) : ∀ e w, Ret S e w → Ret S' e w
  | .returned v, w, r => h v w r
  | .panicked _, _, r => r
  | .outgrown, _, r => r

/-- THE CONTRACT OF A FUNCTION -/
def Fn (P : Program) (f : FuncId) (args : List Value) (w : World) (S : Value → World → Prop) : Prop := Calls P f args.toArray w (Ret S)

theorem Fn.mono {f : FuncId} {args : List Value} {w : World} {S S' : Value → World → Prop} (h : Fn P f args w S) (hs : ∀ v w, S v w → S' v w) : Fn P f args w S' := Calls.mono h (Ret.mono hs)

def envAt : Nat → List Value → Env
  | _, [] => []
  | k, v :: r => (k, v) :: envAt (k + 1) r

theorem look_envAt : ∀ (l : List Value) (k i : Nat) (v : Value), look (envAt k l) i = some v → k ≤ i ∧ l[i - k]? = some v
  | [], k, i, v, h => by simp [envAt, look] at h
  | u :: r, k, i, v, h => by
    rw [envAt, look_cons] at h
    by_cases e : k = i
    · subst e; rw [if_pos rfl] at h; simpa using h
    · rw [if_neg e] at h
      obtain ⟨h1, h2⟩ := look_envAt r (k + 1) i v h
      refine ⟨by omega, ?_⟩
      obtain ⟨j, rfl⟩ : ∃ j, i = k + 1 + j := ⟨i - (k + 1), by omega⟩
      rw [show k + 1 + j - (k + 1) = j by omega] at h2
      rw [show k + 1 + j - k = j + 1 by omega]
      simpa using h2

theorem Fn.enter {f : FuncId} {fn : Func} {c : Code} {args : List Value} {w : World} {S : Value → World → Prop}
    (hf : P.funcs[f]? = some fn) (hb : fn.body = some c) (hn : fn.ntmps = n) (hz : Nat.ble args.length n = true)
    (h : WC P n c (bodyPost P fn (Ret S)) (envAt 0 args) w) : Fn P f args w S := by
  have hz' : args.length ≤ n := by simpa using hz
  refine calls_of_wp hf hb (h _ ⟨rfl, by simp [hn]; omega, fun i v hv => ?_⟩)
  obtain ⟨_, h2⟩ := look_envAt args 0 i v hv
  simp only [Nat.sub_zero] at h2
  have hi : i < args.length := (List.getElem?_eq_some_iff.1 h2).1
  rw [List.getElem?_eq_getElem hi] at h2
  simp only [Option.some.injEq] at h2
  simp [Array.getD_eq_getD_getElem?, Array.getElem?_append, hi, h2]

/-! code -/
section
variable {Q : Exit → Act → World → Prop} {σ : Env} {w : World}

theorem WC.sub {c : Code} (τ : Env) (hs : Sub σ τ) (h : WC P n c Q τ w) : WC P n c Q σ w := fun a ha => h a (ha.sub hs)
theorem WN.sub {K : Act → World → Prop} (τ : Env) (hs : Sub σ τ) (h : WN n K τ w) : WN n K σ w := fun a ha => h a (ha.sub hs)

theorem WC.seq {x y : Code} (h : WC P n x (Exit.then (y.wp P Q) Q) σ w) : WC P n (.seq x y) Q σ w := fun a ha => wp_seq (h a ha)
theorem WC.block {id : Nat} {c : Code} (h : WC P n c (Exit.inBlock id Q) σ w) : WC P n (.block id c) Q σ w := fun a ha => wp_block (h a ha)
theorem WC.skip (h : WN n (Q .normal) σ w) : WC P n .skip Q σ w := fun a ha => wp_skip (h a ha)
theorem WC.ret (h : WN n (Q .ret) σ w) : WC P n .ret Q σ w := fun a ha => wp_ret (h a ha)
theorem WC.exit {id : Nat} (h : WN n (Q (.exit id)) σ w) : WC P n (.exit id) Q σ w := fun a ha => wp_exit (h a ha)
theorem WC.label {l : Nat} (h : WN n (Q .normal) σ w) : WC P n (.label l) Q σ w := fun a ha => wp_label (h a ha)
theorem WC.cond {c : Operand} {x y : Code} {t : Bool} (hc : ev σ c = some (.bool t)) (ht : t = true → WC P n x Q σ w) (hf : t = false → WC P n y Q σ w) : WC P n (.cond c x y) Q σ w :=
  fun a ha => wp_cond_split (ha.evl hc) (fun e => ht e a ha) (fun e => hf e a ha)
theorem WC.condT {c : Operand} {x y : Code} {t : Bool} (hc : ev σ c = some (.bool t)) (e : t = true) (h : WC P n x Q σ w) : WC P n (.cond c x y) Q σ w :=
  fun a ha => wp_cond_true (e ▸ ha.evl hc) (h a ha)
theorem WC.condF {c : Operand} {x y : Code} {t : Bool} (hc : ev σ c = some (.bool t)) (e : t = false) (h : WC P n y Q σ w) : WC P n (.cond c x y) Q σ w :=
  fun a ha => wp_cond_false (e ▸ ha.evl hc) (h a ha)

theorem WC.region {id : Nat} {l : List Oper} (h : WL P n l.toArray Q l σ w) : WC P n (.region id l.toArray false) Q σ w := fun a ha => wp_region_lit (h a ha)

/-- behind a region: the code that follows in a sequence -/
theorem WL.next {ops : Array Oper} {y : Code} (h : WC P n y Q σ w) : WL P n ops (Exit.then (y.wp P Q) Q) [] σ w := h
theorem WN.next {y : Code} (h : WC P n y Q σ w) : WN n (Exit.then (y.wp P Q) Q .normal) σ w := h
theorem WL.last {ops : Array Oper} (h : WN n (Q .normal) σ w) : WL P n ops Q [] σ w := h

/-- through the scopes -/
theorem WN.retThen {K : Act → World → Prop} (h : WN n (Q .ret) σ w) : WN n (Exit.then K Q .ret) σ w := h
theorem WN.exitThen {K : Act → World → Prop} {id : Nat} (h : WN n (Q (.exit id)) σ w) : WN n (Exit.then K Q (.exit id)) σ w := h
theorem WN.retBlock {id : Nat} (h : WN n (Q .ret) σ w) : WN n (Exit.inBlock id Q .ret) σ w := h
theorem WN.normalBlock {id : Nat} (h : WN n (Q .normal) σ w) : WN n (Exit.inBlock id Q .normal) σ w := h
theorem WN.exitHere {id : Nat} (h : WN n (Q .normal) σ w) : WN n (Exit.inBlock id Q (.exit id)) σ w := fun a ha => by
  show if id = id then _ else _
  rw [if_pos rfl]; exact h a ha
theorem WN.exitOther {id id' : Nat} (hne : Nat.beq id' id = false) (h : WN n (Q (.exit id')) σ w) : WN n (Exit.inBlock id Q (.exit id')) σ w := fun a ha => by
  show if id' = id then _ else _
  rw [if_neg (Nat.ne_of_beq_eq_false hne)]; exact h a ha

/-- a loop: the states are numbered by ι -/
theorem WC.loop {c : Code} {ι : Type} (S : ι → Env) (I : ι → World → Prop) (μ : ι → Nat) (i0 : ι) (hs : Sub σ (S i0)) (h0 : I i0 w)
    (round : ∀ i w, I i w → ∀ m, μ i = m → WC P n c (Exit.then (fun a' w' => ∃ i', Fits n (S i') a' ∧ I i' w' ∧ μ i' < m) Q) (S i) w) : WC P n (.loop c) Q σ w := fun a ha =>
  wp_loop_ghost (fun N a w => ∃ i, Fits n (S i) a ∧ I i w ∧ μ i = N) (μ i0) ⟨i0, ha.sub hs, h0, rfl⟩ fun N a w ⟨i, hf, hi, hN⟩ =>
    wp_mono (round i w hi (μ i) rfl a hf) fun e a' w' hq => by
      cases e with
      | normal =>
        obtain ⟨i', h1, h2, h3⟩ := hq
        exact ⟨μ i', hN ▸ h3, i', h1, h2, rfl⟩
      | exit id => exact hq
      | goto l => exact hq
      | ret => exact hq
      | panic ch => exact hq
      | outgrown => exact hq
/-- the end of a round -/
theorem WN.round {ι : Type} {S : ι → Env} {I : ι → World → Prop} {μ : ι → Nat} {m : Nat} (i' : ι) (hs : Sub σ (S i')) (h1 : I i' w) (h2 : μ i' < m) :
    WN n (fun a' w' => ∃ i', Fits n (S i') a' ∧ I i' w' ∧ μ i' < m) σ w := fun _ ha => ⟨i', ha.sub hs, h1, h2⟩
/-- a cut: both ways of x come to the states τ i -/
theorem WC.cut {x y : Code} {ι : Type} (S : ι → Env) (I : ι → World → Prop) (h : ∀ i w, I i w → WC P n y Q (S i) w) (hx : WC P n x (Exit.then (fun a' w' => ∃ i', Fits n (S i') a' ∧ I i' w') Q) σ w) :
    WC P n (.seq x y) Q σ w := fun a ha => wp_seq (wp_mono (hx a ha) fun e a' w' hq => by
      cases e with
      | normal =>
        obtain ⟨i, h1, h2⟩ := hq
        exact h i w' h2 a' h1
      | exit id => exact hq
      | goto l => exact hq
      | ret => exact hq
      | panic ch => exact hq
      | outgrown => exact hq)
theorem WN.cut {ι : Type} {S : ι → Env} {I : ι → World → Prop} (i' : ι) (hs : Sub σ (S i')) (h1 : I i' w) : WN n (fun a' w' => ∃ i', Fits n (S i') a' ∧ I i' w') σ w := fun _ ha => ⟨i', ha.sub hs, h1⟩

/-! the end of a body -/
theorem WN.body1 {fn : Func} {S : Value → World → Prop} {t : Nat} {v : Value} (hr : fn.results = #[.tmp t]) (hv : look σ t = some v) (h : S v w) : WN n (bodyPost P fn (Ret S) .ret) σ w :=
  fun a ha => ⟨ha.defers, v, by rw [results_tmp hr, ha.val t v hv], h⟩
theorem WN.body2 {fn : Func} {S : Value → World → Prop} {t u : Nat} {v v' : Value} (hr : fn.results = #[.tmp t, .tmp u]) (hv : look σ t = some v) (hv' : look σ u = some v') (h : S (.tuple #[v, v']) w) : WN n (bodyPost P fn (Ret S) .ret) σ w :=
  fun a ha => ⟨ha.defers, _, by rw [results_tmp2 hr, ha.val t v hv, ha.val u v' hv'], h⟩
theorem WN.body0 {fn : Func} {S : Value → World → Prop} (hr : fn.results = #[]) (h : S (.tuple #[]) w) : WN n (bodyPost P fn (Ret S) .ret) σ w :=
  fun a ha => ⟨ha.defers, _, by rw [results_none hr], h⟩
theorem WN.body0n {fn : Func} {S : Value → World → Prop} (hr : fn.results = #[]) (h : S (.tuple #[]) w) : WN n (bodyPost P fn (Ret S) .normal) σ w :=
  fun a ha => ⟨ha.defers, _, by rw [results_none hr], h⟩
theorem results_tmp3 {fn : Func} {t u s : Tmp} (h : fn.results = #[.tmp t, .tmp u, .tmp s]) (tmps : Array Value) (P : Program) (w : World) :
    (results fn tmps).run P w = .ok (.tuple #[tmps.getD t undef, tmps.getD u undef, tmps.getD s undef]) w := by
  simp [results, h]
theorem WN.body3 {fn : Func} {S : Value → World → Prop} {t u s : Nat} {v v' v'' : Value} (hr : fn.results = #[.tmp t, .tmp u, .tmp s]) (hv : look σ t = some v) (hv' : look σ u = some v') (hv'' : look σ s = some v'') (h : S (.tuple #[v, v', v'']) w) : WN n (bodyPost P fn (Ret S) .ret) σ w :=
  fun a ha => ⟨ha.defers, _, by rw [results_tmp3 hr, ha.val t v hv, ha.val u v' hv', ha.val s v'' hv''], h⟩
end

/-! operations -/
/-- the operation comes up and is wanted (r = true) or is passed over -/
def Wt (ops : Array Oper) (o : Oper) (σ : Env) (r : Bool) : Prop := ∀ n a, Fits n σ a → Region.wanted o (yielded ops a.tmps) = r
theorem Wt.plain {ops : Array Oper} {o : Oper} {σ : Env} (h : o.guard = none) : Wt ops o σ true := fun _ _ _ => by simp [Region.wanted, h]
theorem Fits.yielded {ops : Array Oper} {σ : Env} {a : Act} {j t : Nat} {b : Bool} (ha : Fits n σ a) (h1 : (ops[j]?).bind (·.dst) = some t) (h2 : look σ t = some (.bool b)) : yielded ops a.tmps j = some b := by
  have h3 := ha.val t _ h2
  have h4 : a.tmps[t]? = some (.bool b) := by
    rw [Array.getD_eq_getD_getElem?] at h3
    cases h : a.tmps[t]? with
    | none => rw [h] at h3; simp [undef] at h3
    | some u => rw [h] at h3; simp at h3; rw [h3]
  unfold Go.yielded
  rw [h1, Option.bind_some, h4]
theorem Wt.guard {ops : Array Oper} {o : Oper} {σ : Env} {j t : Nat} {b c r : Bool} (h : o.guard = some (j, b)) (h1 : (ops[j]?).bind (·.dst) = some t) (h2 : look σ t = some (.bool c)) (h3 : (c == b) = r) : Wt ops o σ r := fun _ _ ha => by
  simp only [Region.wanted, h, ha.yielded h1 h2]
  rw [← h3]
  cases c <;> cases b <;> rfl

theorem Wt.guard' {ops : Array Oper} {o : Oper} {σ : Env} {j t : Nat} {b c v r : Bool} (h : o.guard = some (j, b)) (h1 : (ops[j]?).bind (·.dst) = some t) (h2 : look σ t = some (.bool c)) (hc : c = v) (h3 : (v == b) = r) : Wt ops o σ r := Wt.guard h h1 h2 (by rw [hc]; exact h3)

def Ex (P : Program) (n : Nat) (o : Oper) (σ : Env) (w : World) (v : Value) (w' : World) : Prop := ∀ a, Fits n σ a → (execOp a.eval o).run P w = .ok (.value v) w'
def ExU (P : Program) (n : Nat) (o : Oper) (σ : Env) (w : World) (w' : World) : Prop := ∀ a, Fits n σ a → (execOp a.eval o).run P w = .ok .skip w'

section
variable {Q : Exit → Act → World → Prop} {σ : Env} {w : World} {ops : Array Oper} {rest : List Oper} {o : Oper}

theorem WL.step (hw : Wt ops o σ true) (h : ∀ a, Fits n σ a → o.wp P a w (wpList P ops Q rest) Q) : WL P n ops Q (o :: rest) σ w := fun a ha => by
  unfold wpList
  rw [if_pos (hw n a ha)]
  exact .inl (h a ha)
theorem WL.u {d : Nat} {v : Value} {w' : World} (hd : o.dst = some d) (hn : Nat.blt d n = true) (hw : Wt ops o σ true) (he : Ex P n o σ w v w') (h : WL P n ops Q rest ((d, v) :: σ) w') : WL P n ops Q (o :: rest) σ w :=
  WL.step hw fun a ha => by
    unfold Oper.wp
    rw [he a ha, Oper.upon_value, hd]
    exact h _ (ha.put hn v)
theorem WL.un {v : Value} {w' : World} (hd : o.dst = none) (hw : Wt ops o σ true) (he : Ex P n o σ w v w') (h : WL P n ops Q rest σ w') : WL P n ops Q (o :: rest) σ w :=
  WL.step hw fun a ha => by
    unfold Oper.wp
    rw [he a ha, Oper.upon_value, hd]
    exact h _ ha
theorem WL.s {w' : World} (hd : o.dst = none) (hw : Wt ops o σ true) (he : ExU P n o σ w w') (h : WL P n ops Q rest σ w') : WL P n ops Q (o :: rest) σ w :=
  WL.step hw fun a ha => by
    unfold Oper.wp
    rw [he a ha, Oper.upon_skip, hd]
    exact h _ ha
theorem WL.pass {d : Nat} (hd : o.dst = some d) (hn : Nat.blt d n = true) (hw : Wt ops o σ false) (h : WL P n ops Q rest ((d, undef) :: σ) w) : WL P n ops Q (o :: rest) σ w := fun a ha => by
  unfold wpList
  rw [if_neg (by rw [hw n a ha]; simp), hd]
  exact h _ (ha.put hn undef)
theorem WL.passN (hd : o.dst = none) (hw : Wt ops o σ false) (h : WL P n ops Q rest σ w) : WL P n ops Q (o :: rest) σ w := fun a ha => by
  unfold wpList
  rw [if_neg (by rw [hw n a ha]; simp), hd]
  exact h _ ha

/-- the function is one of the program's own, with a body -/
def Callable (P : Program) (f : FuncId) : Prop := ∃ fn, P.funcs[f]? = some fn ∧ (fn.name == "runtime.NumGoroutine") = false ∧ fn.body.isNone = false

def evs (σ : Env) : List Operand → Option (List Value)
  | [] => some []
  | x :: r => match ev σ x, evs σ r with
    | some v, some vs => some (v :: vs)
    | _, _ => none

theorem Fits.evsl {σ : Env} {a : Act} (ha : Fits n σ a) : ∀ {l : List Operand} {vs : List Value}, evs σ l = some vs → l.map a.eval = vs
  | [], vs, h => by simp [Go.Proofs.Ytmlkabddhdkpaaa.evs] at h; simp [← h]
  | x :: r, vs, h => by
    unfold Go.Proofs.Ytmlkabddhdkpaaa.evs at h
    cases h1 : ev σ x with
    | none => simp [h1] at h
    | some v =>
      cases h2 : Go.Proofs.Ytmlkabddhdkpaaa.evs σ r with
      | none => simp [h1, h2] at h
      | some us =>
        simp [h1, h2] at h
        rw [← h, List.map_cons, ha.evl h1, ha.evsl h2]

theorem exec_call {f : FuncId} {fo : Operand} {args : List Operand} {ats : Array TypeId} {vs cs : List Value} {d : Option Nat} {ty : TypeId} {pos : String} {af : Array Edge} {g : Option (Nat × Bool)} {a : Act}
    (hc : Callable P f) (ha : Fits n σ a) (hf : ev σ fo = some (.func (.func f) #[] cs.toArray)) (hv : evs σ args = some vs) :
    (execOp a.eval ⟨d, .call { callee := .value fo, args := args.toArray, argTypes := ats }, ty, pos, af, g⟩).run P w = .ok (.enter f (vs ++ cs).toArray) w := by
  obtain ⟨fn, h1, h2, h3⟩ := hc
  have h4 : (callFunc f (vs ++ cs).toArray).run P w = .ok (.enter f (vs ++ cs).toArray) w := by
    have h2' : fn.name ≠ "runtime.NumGoroutine" := by simpa using h2
    obtain ⟨c, h3'⟩ := Option.ne_none_iff_exists'.mp (show fn.body ≠ none from fun e => by rw [e] at h3; exact absurd h3 (by decide))
    simp [callFunc, h1, h2', h3', Sem.run]
  have h5 := ha.evsl hv
  simp only [execOp, resolve, ha.evl hf, Deferred.ofValue, Sem.run_bind, Sem.run_pure, Result.andThen_ok, invoke]
  simpa [h5] using h4

theorem WL.call {f : FuncId} {fo : Operand} {args : List Operand} {ats : Array TypeId} {vs cs : List Value} {d : Nat} {ty : TypeId} {pos : String} {af : Array Edge} {g : Option (Nat × Bool)} {S : Value → World → Prop}
    (hc : Callable P f) (hn : Nat.blt d n = true) (hw : Wt ops ⟨some d, .call { callee := .value fo, args := args.toArray, argTypes := ats }, ty, pos, af, g⟩ σ true)
    (hf : ev σ fo = some (.func (.func f) #[] cs.toArray)) (hv : evs σ args = some vs) (hk : Fn P f (vs ++ cs) w S)
    (h : ∀ v w', S v w' → WL P n ops Q rest ((d, v) :: σ) w') : WL P n ops Q (⟨some d, .call { callee := .value fo, args := args.toArray, argTypes := ats }, ty, pos, af, g⟩ :: rest) σ w :=
  WL.step hw fun a ha => by
    unfold Oper.wp
    rw [exec_call hc ha hf hv, Oper.upon_enter]
    refine Calls.mono hk fun e w' r => ?_
    cases e with
    | returned v => exact h v w' r _ (ha.put hn v)
    | panicked _ => exact r.elim
    | outgrown => exact r.elim
end
end
end Go.Proofs.Ytmlkabddhdkpaaa

/- Step lemmas: what each operation yields, over sparse frames. -/
namespace Go.Proofs.Ytmlkabddhdkpaaa
set_option maxRecDepth 100000
set_option linter.unusedSimpArgs false
set_option linter.unusedVariables false
open Go Go.RowKit

abbrev I64 (x : Int) : Prop := -9223372036854775808 ≤ x ∧ x ≤ 9223372036854775807

theorem wrap_in {x : Int} (h : I64 x) : IntKind.i64.wrap x = x := IntWalk.i64_in x h

section
variable {P : Program} {n : Nat} {σ : Env} {w : World} {d : Option Nat} {ty : TypeId} {pos : String} {af : Array Edge} {g : Option (Nat × Bool)} {x y z : Operand}

theorem Ex.to {o : Oper} {v v' : Value} {w' : World} (h : Ex P n o σ w v w') (e : v = v') : Ex P n o σ w v' w' := e ▸ h
theorem Ex.move {v : Value} (h : ev σ x = some v) : Ex P n ⟨d, .move x, ty, pos, af, g⟩ σ w v w := fun a ha => by simp [execOp, ha.evl h]
theorem Ex.assign {v : Value} (h : ev σ x = some v) : Ex P n ⟨d, .assign x, ty, pos, af, g⟩ σ w v w := fun a ha => by simp [execOp, ha.evl h]
theorem Ex.pickT {v : Value} {b : Bool} (hc : ev σ x = some (.bool b)) (hb : b = true) (h : ev σ y = some v) : Ex P n ⟨d, .pick x y z, ty, pos, af, g⟩ σ w v w := fun a ha => by
  subst hb; simp [execOp, ha.evl h, ha.evl hc, asBool]
theorem Ex.pickF {v : Value} {b : Bool} (hc : ev σ x = some (.bool b)) (hb : b = false) (h : ev σ z = some v) : Ex P n ⟨d, .pick x y z, ty, pos, af, g⟩ σ w v w := fun a ha => by
  subst hb; simp [execOp, ha.evl h, ha.evl hc, asBool]

section
variable {X Y : Int} {t t' : TypeId}
theorem Ex.add (hx : ev σ x = some (.int .i64 X)) (hy : ev σ y = some (.int .i64 Y)) (hb : I64 (X + Y)) : Ex P n ⟨d, .binOp .add t x y t', ty, pos, af, g⟩ σ w (.int .i64 (X + Y)) w := fun a ha => by
  simp [execOp, ha.evl hx, ha.evl hy, eqGuard, binOp, Op.intArith, wrap_in hb]
theorem Ex.sub (hx : ev σ x = some (.int .i64 X)) (hy : ev σ y = some (.int .i64 Y)) (hb : I64 (X - Y)) : Ex P n ⟨d, .binOp .sub t x y t', ty, pos, af, g⟩ σ w (.int .i64 (X - Y)) w := fun a ha => by
  simp [execOp, ha.evl hx, ha.evl hy, eqGuard, binOp, Op.intArith, wrap_in hb]
theorem Ex.mul (hx : ev σ x = some (.int .i64 X)) (hy : ev σ y = some (.int .i64 Y)) (hb : I64 (X * Y)) : Ex P n ⟨d, .binOp .mul t x y t', ty, pos, af, g⟩ σ w (.int .i64 (X * Y)) w := fun a ha => by
  simp [execOp, ha.evl hx, ha.evl hy, eqGuard, binOp, Op.intArith, wrap_in hb]
/-- the same where the sum is not bounded -/
theorem Ex.addW {k : IntKind} (hx : ev σ x = some (.int k X)) (hy : ev σ y = some (.int k Y)) : Ex P n ⟨d, .binOp .add t x y t', ty, pos, af, g⟩ σ w (.int k (k.wrap (X + Y))) w := fun a ha => by
  simp [execOp, ha.evl hx, ha.evl hy, eqGuard, binOp, Op.intArith]
theorem Ex.subW {k : IntKind} (hx : ev σ x = some (.int k X)) (hy : ev σ y = some (.int k Y)) : Ex P n ⟨d, .binOp .sub t x y t', ty, pos, af, g⟩ σ w (.int k (k.wrap (X - Y))) w := fun a ha => by
  simp [execOp, ha.evl hx, ha.evl hy, eqGuard, binOp, Op.intArith]
theorem Ex.mulW {k : IntKind} (hx : ev σ x = some (.int k X)) (hy : ev σ y = some (.int k Y)) : Ex P n ⟨d, .binOp .mul t x y t', ty, pos, af, g⟩ σ w (.int k (k.wrap (X * Y))) w := fun a ha => by
  simp [execOp, ha.evl hx, ha.evl hy, eqGuard, binOp, Op.intArith]
theorem Ex.quo (hx : ev σ x = some (.int .i64 X)) (hy : ev σ y = some (.int .i64 Y)) (h0 : 0 ≤ X ∧ X ≤ 9223372036854775807) (h1 : 1 ≤ Y) : Ex P n ⟨d, .binOp .quo t x y t', ty, pos, af, g⟩ σ w (.int .i64 (X / Y)) w := fun a ha => by
  have hd : X / Y ≤ X := Int.ediv_le_self _ h0.1
  have hp : 0 ≤ X / Y := Int.ediv_nonneg h0.1 (by omega)
  have hw : IntKind.i64.wrap (X.tdiv Y) = X / Y := by rw [Int.tdiv_eq_ediv_of_nonneg h0.1]; exact wrap_in ⟨by omega, by omega⟩
  have hne : Y ≠ 0 := by omega
  simp [execOp, ha.evl hx, ha.evl hy, eqGuard, binOp, Op.intDiv, hw, hne]
theorem Ex.rem (hx : ev σ x = some (.int .i64 X)) (hy : ev σ y = some (.int .i64 Y)) (h0 : 0 ≤ X) (h1 : Y ≠ 0) : Ex P n ⟨d, .binOp .rem t x y t', ty, pos, af, g⟩ σ w (.int .i64 (X % Y)) w := fun a ha => by
  simp [execOp, ha.evl hx, ha.evl hy, eqGuard, binOp, Op.intDiv, h1, Int.tmod_eq_emod_of_nonneg h0]
theorem Ex.lss {k : IntKind} (hx : ev σ x = some (.int k X)) (hy : ev σ y = some (.int k Y)) : Ex P n ⟨d, .binOp .lss t x y t', ty, pos, af, g⟩ σ w (.bool (decide (X < Y))) w := fun a ha => by
  simp [execOp, ha.evl hx, ha.evl hy, eqGuard, binOp, Op.intCmp]
theorem Ex.leq {k : IntKind} (hx : ev σ x = some (.int k X)) (hy : ev σ y = some (.int k Y)) : Ex P n ⟨d, .binOp .leq t x y t', ty, pos, af, g⟩ σ w (.bool (decide (X ≤ Y))) w := fun a ha => by
  simp [execOp, ha.evl hx, ha.evl hy, eqGuard, binOp, Op.intCmp]
theorem Ex.gtr {k : IntKind} (hx : ev σ x = some (.int k X)) (hy : ev σ y = some (.int k Y)) : Ex P n ⟨d, .binOp .gtr t x y t', ty, pos, af, g⟩ σ w (.bool (decide (X > Y))) w := fun a ha => by
  simp [execOp, ha.evl hx, ha.evl hy, eqGuard, binOp, Op.intCmp]
theorem Ex.geq {k : IntKind} (hx : ev σ x = some (.int k X)) (hy : ev σ y = some (.int k Y)) : Ex P n ⟨d, .binOp .geq t x y t', ty, pos, af, g⟩ σ w (.bool (decide (X ≥ Y))) w := fun a ha => by
  simp [execOp, ha.evl hx, ha.evl hy, eqGuard, binOp, Op.intCmp]
theorem Ex.eql {k : IntKind} (hx : ev σ x = some (.int k X)) (hy : ev σ y = some (.int k Y)) : Ex P n ⟨d, .binOp .eql t x y t', ty, pos, af, g⟩ σ w (.bool (decide (X = Y))) w := fun a ha => by
  simp [execOp, ha.evl hx, ha.evl hy, eqGuard, binOp, Op.intCmp]; rfl
theorem Ex.neq {k : IntKind} (hx : ev σ x = some (.int k X)) (hy : ev σ y = some (.int k Y)) : Ex P n ⟨d, .binOp .neq t x y t', ty, pos, af, g⟩ σ w (.bool (decide (X ≠ Y))) w := fun a ha => by
  simp [execOp, ha.evl hx, ha.evl hy, eqGuard, binOp, Op.intCmp]; rfl
theorem Ex.xor1 {dn : Nat} (hd : dn < 4) (hx : ev σ x = some (.int .i64 dn)) : Ex P n ⟨d, .binOp .xor t x (.const (.int .i64 1)) t', ty, pos, af, g⟩ σ w (.int .i64 ((if dn = 0 then 1 else if dn = 1 then 0 else if dn = 2 then 3 else 2 : Nat) : Int)) w := fun a ha => by
  have hy : a.eval (.const (.int .i64 1)) = .int .i64 1 := rfl
  obtain h | h | h | h : dn = 0 ∨ dn = 1 ∨ dn = 2 ∨ dn = 3 := by omega
  all_goals (subst h; simp only [execOp, ha.evl hx, hy]; rfl)
theorem Ex.neg (hx : ev σ x = some (.int .i64 X)) (hb : I64 (-X)) : Ex P n ⟨d, .unOp .neg t x, ty, pos, af, g⟩ σ w (.int .i64 (-X)) w := fun a ha => by
  simp [execOp, ha.evl hx, Op.unary, Op.intArith, wrap_in hb]
theorem Ex.not {b : Bool} (hx : ev σ x = some (.bool b)) : Ex P n ⟨d, .unOp .not t x, ty, pos, af, g⟩ σ w (.bool (!b)) w := fun a ha => by
  simp [execOp, ha.evl hx, Op.unary]
end
theorem Ex.extract {vs : Array Value} {i : Nat} {v : Value} (hx : ev σ x = some (.tuple vs)) (h : vs[i]? = some v) : Ex P n ⟨d, .extract x i, ty, pos, af, g⟩ σ w v w := fun a ha => by
  simp [execOp, ha.evl hx, Instr.extract, h]
end
end Go.Proofs.Ytmlkabddhdkpaaa

/- Memory: what a call keeps, the blocks of its own, slices that are read. -/
namespace Go.Proofs.Ytmlkabddhdkpaaa
set_option maxRecDepth 100000
set_option linter.unusedSimpArgs false
set_option linter.unusedVariables false
open Go Go.RowKit

/-- from w to w' nothing has turned but the blocks in S; blocks may have come -/
structure Keep (S : List Nat) (w w' : World) : Prop where
  os : w'.os = w.os
  tape : w'.tape = w.tape
  output : w'.output = w.output
  size : w.heap.size ≤ w'.heap.size
  block : ∀ k, k < w.heap.size → k ∉ S → w'.heap[k]? = w.heap[k]?

theorem Keep.refl (S : List Nat) (w : World) : Keep S w w := ⟨rfl, rfl, rfl, Nat.le_refl _, fun _ _ _ => rfl⟩
theorem Keep.trans {S : List Nat} {a b c : World} (h : Keep S a b) (k : Keep S b c) : Keep S a c :=
  ⟨k.os.trans h.os, k.tape.trans h.tape, k.output.trans h.output, Nat.le_trans h.size k.size, fun i hi hs => (k.block i (Nat.lt_of_lt_of_le hi h.size) hs).trans (h.block i hi hs)⟩
theorem Keep.mono {S T : List Nat} {a b : World} (h : Keep S a b) (hs : ∀ k, k ∈ S → k ∈ T) : Keep T a b := ⟨h.os, h.tape, h.output, h.size, fun k hk hn => h.block k hk fun hm => hn (hs k hm)⟩
theorem Keep.nil {T : List Nat} {a b : World} (h : Keep [] a b) : Keep T a b := h.mono (by simp)
theorem Keep.drew (S : List Nat) (w : World) : Keep S w w.drew := ⟨rfl, rfl, rfl, Nat.le_refl _, fun _ _ _ => rfl⟩
theorem Keep.alloc (S : List Nat) (w : World) (o : Obj) : Keep S w (w.alloc o) := ⟨rfl, rfl, rfl, by simp, fun k hk _ => Below.heap_alloc w o k hk⟩
theorem Keep.below {a b : World} (h : Keep [] a b) : Below a.heap.size a b := ⟨h.os, h.tape, h.output, h.size, fun k hk => h.block k hk (by simp)⟩
theorem Keep.cell {S : List Nat} {w w' : World} (h : Keep S w w') {a : Addr} {v : Value} (hc : w.cell? a = some v) (hs : a.block ∉ S) : w'.cell? a = some v :=
  (World.cell?_of_block (h.block a.block (World.block_lt_of_cell? w a hc) hs)).trans hc
theorem Keep.heap {S : List Nat} {w w' : World} (h : Keep S w w') {b : Nat} {o : Obj} (hc : w.heap[b]? = some o) (hs : b ∉ S) : w'.heap[b]? = some o :=
  (h.block b (Array.getElem?_eq_some_iff.1 hc).1 hs).trans hc

/-- THE STATE OF A CALL THAT BEGAN IN w0: it may turn the blocks in S; the blocks in L, its own or in S, hold these objects -/
structure Hp (S : List Nat) (w0 w : World) (L : List (Nat × Obj)) : Prop where
  keep : Keep S w0 w
  mem : ∀ p ∈ L, w.heap[p.1]? = some p.2
  own : ∀ p ∈ L, w0.heap.size ≤ p.1 ∨ p.1 ∈ S
  nodup : (L.map (·.1)).Nodup

section
variable {S : List Nat} {w0 w : World} {L : List (Nat × Obj)}
theorem Hp.start (S : List Nat) (w : World) : Hp S w w [] := ⟨Keep.refl S w, by simp, by simp, by simp⟩
theorem Hp.at (h : Hp S w0 w L) (i : Nat) {p : Nat × Obj} (hi : L[i]? = some p) : w.heap[p.1]? = some p.2 := h.mem p (List.mem_of_getElem? hi)
theorem Hp.lt (h : Hp S w0 w L) (i : Nat) {p : Nat × Obj} (hi : L[i]? = some p) : p.1 < w.heap.size := (Array.getElem?_eq_some_iff.1 (h.at i hi)).1
theorem Hp.drew (h : Hp S w0 w L) : Hp S w0 w.drew L := ⟨h.keep.trans (Keep.drew S w), h.mem, h.own, h.nodup⟩
/-- a new block -/
theorem Hp.alloc (h : Hp S w0 w L) (o : Obj) : Hp S w0 (w.alloc o) ((w.heap.size, o) :: L) := by
  refine ⟨h.keep.trans (Keep.alloc S w o), ?_, ?_, ?_⟩
  · intro p hp
    rcases List.mem_cons.1 hp with rfl | hp
    · exact heap_alloc_new w o
    · exact (Below.heap_alloc w o _ (Array.getElem?_eq_some_iff.1 (h.mem p hp)).1).trans (h.mem p hp)
  · intro p hp
    rcases List.mem_cons.1 hp with rfl | hp
    · exact .inl h.keep.size
    · exact h.own p hp
  · simp only [List.map_cons, List.nodup_cons]
    refine ⟨fun hm => ?_, h.nodup⟩
    obtain ⟨p, hp, e⟩ := List.mem_map.1 hm
    have := (Array.getElem?_eq_some_iff.1 (h.mem p hp)).1
    omega
/-- two blocks of a call's own are two -/
theorem Hp.nin (h : Hp S w0 w L) (i j : Nat) (hij : Nat.beq i j = false) {p q : Nat × Obj} (hi : L[i]? = some p) (hj : L[j]? = some q) : p.1 ∉ [q.1] := by
  intro hm
  have e := List.mem_singleton.1 hm
  have hi' : (L.map (·.1))[i]? = some p.1 := by simp [hi]
  have hj' : (L.map (·.1))[j]? = some p.1 := by simp [hj, e]
  have hlt : i < (L.map (·.1)).length := (List.getElem?_eq_some_iff.1 hi').1
  exact Nat.ne_of_beq_eq_false hij ((List.getElem?_inj hlt h.nodup).1 (hi'.trans hj'.symm))
/-- a callee that turns nothing that was -/
theorem Hp.call {w1 : World} (h : Hp S w0 w L) (k : Keep [] w w1) : Hp S w0 w1 L :=
  ⟨h.keep.trans k.nil, fun p hp => k.heap (h.mem p hp) (by simp), h.own, h.nodup⟩
/-- a callee that has made a block and hands it over -/
theorem Hp.push {w1 : World} (h : Hp S w0 w L) (k : Keep [] w w1) {b : Nat} {o : Obj} (hb : w.heap.size ≤ b) (ho : w1.heap[b]? = some o) : Hp S w0 w1 ((b, o) :: L) := by
  have h1 := h.call k
  refine ⟨h1.keep, ?_, ?_, ?_⟩
  · intro p hp
    rcases List.mem_cons.1 hp with rfl | hp
    · exact ho
    · exact h1.mem p hp
  · intro p hp
    rcases List.mem_cons.1 hp with rfl | hp
    · exact .inl (Nat.le_trans h.keep.size hb)
    · exact h1.own p hp
  · simp only [List.map_cons, List.nodup_cons]
    refine ⟨fun hm => ?_, h.nodup⟩
    obtain ⟨p, hp, e⟩ := List.mem_map.1 hm
    have := (Array.getElem?_eq_some_iff.1 (h.mem p hp)).1
    omega
theorem Hp.tail {p : Nat × Obj} (h : Hp S w0 w (p :: L)) : Hp S w0 w L :=
  ⟨h.keep, fun q hq => h.mem q (List.mem_cons_of_mem _ hq), fun q hq => h.own q (List.mem_cons_of_mem _ hq), (List.nodup_cons.1 (by simpa using h.nodup)).2⟩
/-- drop the i-th -/
theorem Hp.drop (h : Hp S w0 w L) (i : Nat) : Hp S w0 w (L.eraseIdx i) :=
  ⟨h.keep, fun q hq => h.mem q (List.mem_of_mem_eraseIdx hq), fun q hq => h.own q (List.mem_of_mem_eraseIdx hq), by
    exact h.nodup.sublist ((List.eraseIdx_sublist L i).map _)⟩
theorem Hp.sub {M : List (Nat × Obj)} (h : Hp S w0 w L) (hs : M.Sublist L) : Hp S w0 w M :=
  ⟨h.keep, fun q hq => h.mem q (hs.subset hq), fun q hq => h.own q (hs.subset hq), h.nodup.sublist (hs.map _)⟩
theorem Hp.first0 (h : Hp S w0 w L) : Hp S w0 w [] := h.sub (List.nil_sublist _)
theorem Hp.first1 {a : Nat × Obj} (h : Hp S w0 w (a :: L)) : Hp S w0 w [a] := h.sub (by simp)
theorem Hp.first2 {a b : Nat × Obj} (h : Hp S w0 w (a :: b :: L)) : Hp S w0 w [a, b] := h.sub (by simp)
theorem Hp.first3 {a b c : Nat × Obj} (h : Hp S w0 w (a :: b :: c :: L)) : Hp S w0 w [a, b, c] := h.sub (by simp)
theorem Hp.first4 {a b c d : Nat × Obj} (h : Hp S w0 w (a :: b :: c :: d :: L)) : Hp S w0 w [a, b, c, d] := h.sub (by simp)
/-- the i-th to the front -/
theorem Hp.front (h : Hp S w0 w L) (i : Nat) {p : Nat × Obj} (hi : L[i]? = some p) : Hp S w0 w (p :: L.eraseIdx i) := by
  have hlt : i < L.length := (List.getElem?_eq_some_iff.1 hi).1
  have hp : L.Perm (p :: L.eraseIdx i) := by
    rw [List.eraseIdx_eq_take_drop_succ]
    have e : L = L.take i ++ p :: L.drop (i + 1) := by
      conv => lhs; rw [← List.take_append_drop i L, List.drop_eq_getElem_cons hlt, (List.getElem?_eq_some_iff.1 hi).2]
    exact (List.Perm.of_eq e).trans List.perm_middle
  exact ⟨h.keep, fun q hq => h.mem q (hp.mem_iff.2 hq), fun q hq => h.own q (hp.mem_iff.2 hq), (hp.map _).nodup_iff.1 h.nodup⟩

/-- a step that turns the first block alone (and may make more) -/
theorem Hp.turn {w1 : World} {b : Nat} {o o' : Obj} (h : Hp S w0 w ((b, o) :: L)) (k : Keep [b] w w1) (ho : w1.heap[b]? = some o') : Hp S w0 w1 ((b, o') :: L) := by
  have hn := List.nodup_cons.1 (show (b :: L.map (·.1)).Nodup from h.nodup)
  have hne : ∀ q ∈ L, q.1 ∉ [b] := fun q hq e => hn.1 (by rw [← List.mem_singleton.1 e]; exact List.mem_map_of_mem hq)
  refine ⟨⟨k.os.trans h.keep.os, k.tape.trans h.keep.tape, k.output.trans h.keep.output, Nat.le_trans h.keep.size k.size, fun i hi hs => ?_⟩, ?_, ?_, h.nodup⟩
  · have hib : i ∉ [b] := fun e => by
      have e := List.mem_singleton.1 e
      subst e
      rcases h.own (i, o) (by simp) with h1 | h1
      · dsimp only at h1; omega
      · exact hs h1
    exact (k.block i (Nat.lt_of_lt_of_le hi h.keep.size) hib).trans (h.keep.block i hi hs)
  · intro p hp
    rcases List.mem_cons.1 hp with rfl | hp
    · exact ho
    · exact k.heap (h.mem p (List.mem_cons_of_mem _ hp)) (hne p hp)
  · intro p hp
    rcases List.mem_cons.1 hp with rfl | hp
    · exact h.own (b, o) (by simp)
    · exact h.own p (List.mem_cons_of_mem _ hp)
/-- a step that gives up the first block for a new one -/
theorem Hp.move {w1 : World} {b b' : Nat} {o o' : Obj} (h : Hp S w0 w ((b, o) :: L)) (k : Keep [] w w1) (hb : w.heap.size ≤ b') (ho : w1.heap[b']? = some o') : Hp S w0 w1 ((b', o') :: L) :=
  h.tail.push k hb ho

theorem keep_setCell (w : World) (b i : Nat) (v : Value) : Keep [b] w (w.setCell ⟨b, i, none⟩ v) :=
  ⟨rfl, rfl, rfl, by simp, fun k hk hs => heap_setCell_other w _ k v (by simpa using hs)⟩
theorem heap_setCell_at (w : World) (g i : Nat) (cs : Array Value) (t : TypeId) (fr : Nat × Nat) (v : Value) (hg : w.heap[g]? = some (.cells cs t fr)) :
    (w.setCell ⟨g, i, none⟩ v).heap[g]? = some (.cells (cs.setIfInBounds i v) t fr) := by
  simp [World.setCell, Array.getElem?_modify, hg]
theorem Hp.setCell {b : Nat} {cs : Array Value} {t : TypeId} {fr : Nat × Nat} (h : Hp S w0 w ((b, .cells cs t fr) :: L)) (i : Nat) (v : Value) :
    Hp S w0 (w.setCell ⟨b, i, none⟩ v) ((b, .cells (cs.setIfInBounds i v) t fr) :: L) :=
  h.turn (keep_setCell w b i v) (heap_setCell_at w b i cs t fr v (h.at 0 rfl))
end

/-! ### slices that are read -/
structure Rep (α : Type) where
  sz : Nat
  cells : α → List Value
  val : α → Value
  len : ∀ x, (cells x).length = sz
  pos : 0 < sz
  one : ∀ x, ∀ u ∈ cells x, u.oneCell' = true
  vc : ∀ x, (val x).cells = (cells x).toArray
  v1 : sz = 1 → ∀ x, cells x = [val x]

theorem length_flat {α : Type} (r : Rep α) (l : List α) : (l.flatMap r.cells).length = l.length * r.sz := by
  induction l with
  | nil => simp
  | cons x l ih => simp [ih, r.len, Nat.add_mul, Nat.add_comm]
theorem flat_get {α : Type} (r : Rep α) (l : List α) (j k : Nat) (x : α) (hx : l[j]? = some x) (hk : k < r.sz) : (l.flatMap r.cells)[j * r.sz + k]? = (r.cells x)[k]? := by
  induction l generalizing j with
  | nil => simp at hx
  | cons y l ih =>
    cases j with
    | zero =>
      simp at hx; subst hx
      simp only [List.flatMap_cons, Nat.zero_mul, Nat.zero_add]
      rw [List.getElem?_append_left (by rw [r.len]; exact hk)]
    | succ j =>
      simp only [List.flatMap_cons]
      rw [List.getElem?_append_right (by rw [r.len, Nat.add_mul]; omega), r.len]
      have : (j + 1) * r.sz + k - r.sz = j * r.sz + k := by rw [Nat.add_mul]; omega
      rw [this]
      exact ih j (by simpa using hx)

/-- the slice over 'a' reads as l -/
def Sl {α : Type} (r : Rep α) (w : World) (a : Option Addr) (l : List α) : Prop :=
  (l.length : Int) ≤ 9223372036854775807 ∧ (l = [] ∨ ∃ b off, a = some ⟨b, off, none⟩ ∧ ∀ j u, (l.flatMap r.cells)[j]? = some u → w.cell? ⟨b, off + j, none⟩ = some u)

/-- its block is none of these -/
def Apart (S : List Nat) (a : Option Addr) : Prop := ∀ p, a = some p → p.block ∉ S

theorem Sl.keep {α : Type} {r : Rep α} {S : List Nat} {w w' : World} {a : Option Addr} {l : List α} (h : Sl r w a l) (k : Keep S w w') (hs : Apart S a) : Sl r w' a l :=
  ⟨h.1, h.2.imp id fun ⟨b, off, e, hc⟩ => ⟨b, off, e, fun j u hu => k.cell (hc j u hu) (hs ⟨b, off, none⟩ e)⟩⟩
theorem Sl.kept {α : Type} {r : Rep α} {w w' : World} {a : Option Addr} {l : List α} (h : Sl r w a l) (k : Keep [] w w') : Sl r w' a l := h.keep k fun _ _ => by simp
theorem Sl.nil {α : Type} (r : Rep α) (w : World) (a : Option Addr) : Sl r w a [] := ⟨by simp, .inl rfl⟩
theorem Sl.addr {α : Type} {r : Rep α} {w : World} {a : Option Addr} {l : List α} (h : Sl r w a l) (hl : 0 < l.length) : ∃ b off, a = some ⟨b, off, none⟩ := by
  rcases h.2 with rfl | ⟨b, off, e, _⟩
  · simp at hl
  · exact ⟨b, off, e⟩
theorem Sl.cell {α : Type} {r : Rep α} {w : World} {b off : Nat} {l : List α} (h : Sl r w (some ⟨b, off, none⟩) l) {j k : Nat} {x : α} {u : Value} (hx : l[j]? = some x) (hu : (r.cells x)[k]? = some u) : w.cell? ⟨b, off + (j * r.sz + k), none⟩ = some u := by
  rcases h.2 with rfl | ⟨b', off', e, hc⟩
  · simp at hx
  · cases e
    have hk : k < r.sz := by rw [← r.len x]; exact (List.getElem?_eq_some_iff.1 hu).1
    exact hc _ _ ((flat_get r l j k x hx hk).trans hu)

/-- a row of cells begins with l -/
def Rw {α : Type} (r : Rep α) (cur : Array Value) (l : List α) : Prop := cur.toList.take (l.length * r.sz) = l.flatMap r.cells

theorem Rw.sl {α : Type} {r : Rep α} {w : World} {b : Nat} {cur : Array Value} {e : TypeId} {fr : Nat × Nat} {l : List α} (h : Rw r cur l) (hb : w.heap[b]? = some (.cells cur e fr)) (hm : (l.length : Int) ≤ 9223372036854775807) : Sl r w (some ⟨b, 0, none⟩) l := by
  refine ⟨hm, .inr ⟨b, 0, rfl, fun j u hu => ?_⟩⟩
  rw [cell_of_row w b (0 + j) cur e fr hb, Nat.zero_add]
  rw [← h, List.getElem?_take] at hu
  split at hu
  · simpa using hu
  · cases hu

/-- a slice that the call has made: the caller may write to it -/
def New {α : Type} (r : Rep α) (e : TypeId) (w0 w : World) (v : Value) (l : List α) : Prop :=
  ∃ b cap cur, v = .slice (some ⟨b, 0, none⟩) l.length cap ∧ w0.heap.size ≤ b ∧ w.heap[b]? = some (.cells cur e (0, 0)) ∧ cur.size = cap * r.sz ∧ l.length ≤ cap ∧ cap ≤ maxLen ∧ Rw r cur l

end Go.Proofs.Ytmlkabddhdkpaaa

/- Steps over memory. -/
namespace Go.Proofs.Ytmlkabddhdkpaaa
set_option maxRecDepth 100000
set_option linter.unusedSimpArgs false
set_option linter.unusedVariables false
open Go Go.RowKit

abbrev bs (l : List UInt8) : ByteArray := ByteArray.mk l.toArray
abbrev vstr (l : List UInt8) : Value := .string (ByteArray.mk l.toArray)
abbrev vint (x : Int) : Value := .int .i64 x
abbrev vsl (b n cap : Nat) : Value := .slice (some ⟨b, 0, none⟩) n cap
abbrev vptr (b off : Nat) : Value := .pointer (some ⟨b, off, none⟩)

def rStr : Rep (List UInt8) := ⟨1, fun s => [vstr s], vstr, fun _ => rfl, by decide, fun _ u h => by rw [List.mem_singleton.1 h]; rfl, fun _ => rfl, fun _ _ => rfl⟩
def rInt : Rep Int := ⟨1, fun x => [vint x], vint, fun _ => rfl, by decide, fun _ u h => by rw [List.mem_singleton.1 h]; rfl, fun _ => rfl, fun _ _ => rfl⟩
def rByte : Rep UInt8 := ⟨1, fun x => [.int .u8 x.toNat], fun x => .int .u8 x.toNat, fun _ => rfl, by decide, fun _ u h => by rw [List.mem_singleton.1 h]; rfl, fun _ => rfl, fun _ _ => rfl⟩
def rBool : Rep Bool := ⟨1, fun x => [.bool x], .bool, fun _ => rfl, by decide, fun _ u h => by rw [List.mem_singleton.1 h]; rfl, fun _ => rfl, fun _ _ => rfl⟩
def rNat : Rep Nat := ⟨1, fun x => [vint x], fun x => vint x, fun _ => rfl, by decide, fun _ u h => by rw [List.mem_singleton.1 h]; rfl, fun _ => rfl, fun _ _ => rfl⟩
def rStep : Rep (Nat × Nat) := ⟨2, fun x => [vint x.1, vint x.2], fun x => .agg #[vint x.1, vint x.2], fun _ => rfl, by decide, fun _ u h => by
  rcases List.mem_cons.1 h with h | h
  · rw [h]; rfl
  · rw [List.mem_singleton.1 h]; rfl, fun _ => rfl, fun h => absurd h (by decide)⟩
def rPair : Rep (Int × Int) := ⟨2, fun x => [vint x.1, vint x.2], fun x => .agg #[vint x.1, vint x.2], fun _ => rfl, by decide, fun _ u h => by
  rcases List.mem_cons.1 h with h | h
  · rw [h]; rfl
  · rw [List.mem_singleton.1 h]; rfl, fun _ => rfl, fun h => absurd h (by decide)⟩

/-- a type's zero, cells, bytes -/
def Ty (P : Program) (t : TypeId) (z : Value) (sz by' : Nat) : Prop := ∃ i, P.info? t = some i ∧ i.zero = some z ∧ i.size = sz ∧ i.bytes = by'
theorem Ty.mk' {P : Program} {t : TypeId} {z : Value} {sz by' : Nat} (h : (P.info? t).map (fun i => (i.zero, i.size, i.bytes)) = some (some z, sz, by')) : Ty P t z sz by' := by
  cases e : P.info? t with
  | none => rw [e] at h; simp at h
  | some i => rw [e] at h; simp at h; exact ⟨i, e, h.1, h.2.1, h.2.2⟩

section
variable {P : Program} {n : Nat} {σ : Env} {w : World} {d : Option Nat} {ty : TypeId} {pos : String} {af : Array Edge} {g : Option (Nat × Bool)} {x y z : Operand} {t t' : TypeId}

theorem Ex.lenStr {l : List UInt8} (ht : P.underlying t = some .string) (hx : ev σ x = some (vstr l)) : Ex P n ⟨d, .call { callee := .builtin .len, args := #[x], argTypes := #[t] }, ty, pos, af, g⟩ σ w (vint l.length) w := fun a ha => by
  simp [execOp, resolve, invoke, builtin, ha.evl hx, Builtin.len_, run_underlying ht, goInt]
  rfl
theorem Ex.lenSl {e : TypeId} {ad : Option Addr} {k cap : Nat} (ht : P.underlying t = some (.slice e)) (hx : ev σ x = some (.slice ad k cap)) : Ex P n ⟨d, .call { callee := .builtin .len, args := #[x], argTypes := #[t] }, ty, pos, af, g⟩ σ w (vint k) w := fun a ha => by
  simp [execOp, resolve, invoke, builtin, ha.evl hx, Builtin.len_, run_underlying ht, goInt]
theorem bs_size (l : List UInt8) : (ByteArray.mk l.toArray).size = l.length := by show l.toArray.size = _; simp
theorem bs_get (l : List UInt8) (i : Nat) : (ByteArray.mk l.toArray)[i]? = l[i]? := by
  by_cases h : i < l.length
  · rw [ByteArray.getElem?_lt' _ _ (show i < l.toArray.size by simpa using h), List.getElem?_eq_getElem h]; rfl
  · rw [ByteArray.getElem?_ge' _ _ (show ¬ i < l.toArray.size by simpa using h), List.getElem?_eq_none (by omega)]
theorem Ex.indexStr {l : List UInt8} {k : IntKind} {i : Int} (ht : P.underlying t = some .string) (hx : ev σ x = some (vstr l)) (hy : ev σ y = some (.int k i)) (hi : 0 ≤ i ∧ i < l.length) :
    Ex P n ⟨d, .index t x y, ty, pos, af, g⟩ σ w (.int .u8 (l.getD i.toNat 0).toNat) w := fun a ha => by
  have h1 : i.toNat < l.length := by omega
  simp [execOp, ha.evl hx, ha.evl hy, Instr.index, asIntOf, run_underlying ht, hi.1, bs_get, List.getElem?_eq_getElem h1]
theorem Ex.indexAddr {e : TypeId} {b off k cap : Nat} {kd : IntKind} {i : Int} {zz : Value} {sz by' : Nat} (ht : P.underlying t = some (.slice e)) (he : Ty P e zz sz by') (hx : ev σ x = some (.slice (some ⟨b, off, none⟩) k cap)) (hy : ev σ y = some (.int kd i)) (hi : 0 ≤ i ∧ i < k) :
    Ex P n ⟨d, .indexAddr t x y, ty, pos, af, g⟩ σ w (vptr b (off + i.toNat * sz)) w := fun a ha => by
  obtain ⟨inf, h1, h2, h3, h4⟩ := he
  simp [execOp, ha.evl hx, ha.evl hy, Instr.indexAt, asIntOf, run_underlying ht, hi.1, hi.2, sizeOf, typeInfo, h1, h3, Addr.add_lit]
/-- not a struct, not an array -/
def Flat (P : Program) (t : TypeId) : Prop := ∃ dsc, P.underlying t = some dsc ∧ (match dsc with | .struct _ | .array _ _ => false | _ => true) = true
theorem run_isAgg_flat {t : TypeId} (h : Flat P t) (w : World) : (isAgg t).run P w = .ok false w := by
  obtain ⟨dsc, h1, h2⟩ := h
  unfold isAgg
  rw [Sem.run_bind, run_underlying h1]
  cases dsc <;> first | rfl | (simp at h2)
theorem Ex.load {b off : Nat} {v : Value} (ht : Flat P t) (hx : ev σ x = some (vptr b off)) (hc : w.cell? ⟨b, off, none⟩ = some v) : Ex P n ⟨d, .load t x, ty, pos, af, g⟩ σ w v w := fun a ha => by
  simp [execOp, ha.evl hx, Instr.loadAt, Instr.sureAddr, loadVar, run_isAgg_flat ht, hc]
theorem Ex.loadSl {α : Type} {r : Rep α} {b off : Nat} {l : List α} {j : Nat} {u : α} (ht : Flat P t) (hl : Sl r w (some ⟨b, off, none⟩) l) (hs : r.sz = 1) (hx : ev σ x = some (vptr b (off + j * r.sz))) (hu : l[j]? = some u) : Ex P n ⟨d, .load t x, ty, pos, af, g⟩ σ w (r.val u) w := by
  refine Ex.load ht hx ?_
  have h1 : (r.cells u)[0]? = some (r.val u) := by rw [r.v1 hs u]; rfl
  have := hl.cell hu h1
  simpa using this
theorem bs_extract (l : List UInt8) (i j : Nat) : (ByteArray.mk l.toArray).extract i j = ByteArray.mk ((l.drop i).take (j - i)).toArray := ByteArray.extract_mk l i j
theorem Ex.sliceStr {l : List UInt8} {k k' : IntKind} {i j : Int} (ht : P.underlying t = some .string) (hx : ev σ x = some (vstr l)) (hy : ev σ y = some (.int k i)) (hz : ev σ z = some (.int k' j)) (hb : 0 ≤ i ∧ i ≤ j ∧ j ≤ l.length) :
    Ex P n ⟨d, .slice t x (some y) (some z) none, ty, pos, af, g⟩ σ w (vstr ((l.drop i.toNat).take (j.toNat - i.toNat))) w := fun a ha => by
  have h1 : 0 ≤ j := by omega
  have h2 : i ≤ max j 0 := by omega
  simp [execOp, ha.evl hx, ha.evl hy, ha.evl hz, Instr.sliceAt, run_underlying ht, Instr.slice, Instr.sliceBounds, Instr.sliceBound, asIntOf, hb.1, h1, h2, hb.2.2, bs_extract, bs_size]
theorem Ex.sliceStrFrom {l : List UInt8} {k : IntKind} {i : Int} (ht : P.underlying t = some .string) (hx : ev σ x = some (vstr l)) (hy : ev σ y = some (.int k i)) (hb : 0 ≤ i ∧ i ≤ l.length) :
    Ex P n ⟨d, .slice t x (some y) none none, ty, pos, af, g⟩ σ w (vstr (l.drop i.toNat)) w := fun a ha => by
  have h3 : List.take (l.length - i.toNat) (List.drop i.toNat l) = List.drop i.toNat l := List.take_of_length_le (by simp)
  simp [h3, execOp, ha.evl hx, ha.evl hy, Instr.sliceAt, run_underlying ht, Instr.slice, Instr.sliceBounds, Instr.sliceBound, asIntOf, hb.1, hb.2, bs_extract, bs_size]
theorem Ex.sliceStrTo {l : List UInt8} {k' : IntKind} {j : Int} (ht : P.underlying t = some .string) (hx : ev σ x = some (vstr l)) (hz : ev σ z = some (.int k' j)) (hb : 0 ≤ j ∧ j ≤ l.length) :
    Ex P n ⟨d, .slice t x none (some z) none, ty, pos, af, g⟩ σ w (vstr (l.take j.toNat)) w := fun a ha => by
  simp [execOp, ha.evl hx, ha.evl hz, Instr.sliceAt, run_underlying ht, Instr.slice, Instr.sliceBounds, Instr.sliceBound, asIntOf, hb.1, hb.2, bs_extract, bs_size]
theorem Ex.concat {l m : List UInt8} (hx : ev σ x = some (vstr l)) (hy : ev σ y = some (vstr m)) (hb : l.length + m.length ≤ 9223372036854775807) : Ex P n ⟨d, .binOp .add t x y t', ty, pos, af, g⟩ σ w (vstr (l ++ m)) w := fun a ha => by
  have h := run_string_add_sum (P := P) (w := w) (bs l) (bs m) (by simpa [go_sem] using hb)
  simp only [execOp, ha.evl hx, ha.evl hy]
  simp [eqGuard, binOp_string_add, h, ByteArray.mk_append_mk]
theorem Ex.eqlStr {l m : List UInt8} (hx : ev σ x = some (vstr l)) (hy : ev σ y = some (vstr m)) : Ex P n ⟨d, .binOp .eql t x y t', ty, pos, af, g⟩ σ w (.bool (decide (l = m))) w := fun a ha => by
  simp [execOp, ha.evl hx, ha.evl hy, eqGuard, binOp_string_eql]
  by_cases h : l = m <;> simp [h]
theorem Ex.neqStr {l m : List UInt8} (hx : ev σ x = some (vstr l)) (hy : ev σ y = some (vstr m)) : Ex P n ⟨d, .binOp .neq t x y t', ty, pos, af, g⟩ σ w (.bool (!decide (l = m))) w := fun a ha => by
  simp [execOp, ha.evl hx, ha.evl hy, eqGuard, binOp_string_neq]
  by_cases h : l = m <;> simp [h]
theorem run_equal_bool {b c : Bool} (ht : P.underlying t = some .bool) : (Op.equal t (.bool b) (.bool c)).run P w = .ok (b == c) w := run_equalIn_bool' w 9999 t b c ht
theorem Ex.eqlB {b c : Bool} (ht : P.underlying t = some .bool) (hx : ev σ x = some (.bool b)) (hy : ev σ y = some (.bool c)) : Ex P n ⟨d, .binOp .eql t x y t', ty, pos, af, g⟩ σ w (.bool (b == c)) w := fun a ha => by
  have e : binOp .eql t (.bool b) (.bool c) = (do pure (.bool (← Op.equal t (.bool b) (.bool c)))) := rfl
  simp only [execOp, ha.evl hx, ha.evl hy, e]
  simp [eqGuard, run_equal_bool ht]
theorem Ex.neqB {b c : Bool} (ht : P.underlying t = some .bool) (hx : ev σ x = some (.bool b)) (hy : ev σ y = some (.bool c)) : Ex P n ⟨d, .binOp .neq t x y t', ty, pos, af, g⟩ σ w (.bool (!(b == c))) w := fun a ha => by
  have e : binOp .neq t (.bool b) (.bool c) = (do pure (.bool (!(← Op.equal t (.bool b) (.bool c))))) := rfl
  simp only [execOp, ha.evl hx, ha.evl hy, e]
  simp [eqGuard, run_equal_bool ht]
theorem Ex.makeFunc {f : Nat} {cs : List Operand} {vs : List Value} (hv : evs σ cs = some vs) : Ex P n ⟨d, .makeFunc (.func f) #[] cs.toArray, ty, pos, af, g⟩ σ w (.func (.func f) #[] vs.toArray) w := fun a ha => by
  have h := ha.evsl hv
  simp [execOp, Instr.makeFunc, h]
theorem Ex.conv {k k' : IntKind} {i : Int} (hd : P.underlying t' = some (.int k')) (ht : P.underlying t = some (.int k)) (hx : ev σ x = some (.int k i)) : Ex P n ⟨d, .convert t t' x, ty, pos, af, g⟩ σ w (.int k' (k'.wrap i)) w := fun a ha => by
  simp [execOp, ha.evl hx, convert, run_underlying hd, run_underlying ht, Conv.intToInt]
/-- a wider kind -/
theorem Ex.conv' {k k' : IntKind} {i : Int} (hd : P.underlying t' = some (.int k')) (ht : P.underlying t = some (.int k)) (hx : ev σ x = some (.int k i)) (hw : k'.wrap i = i) : Ex P n ⟨d, .convert t t' x, ty, pos, af, g⟩ σ w (.int k' i) w := by
  have := Ex.conv (P := P) (n := n) (σ := σ) (w := w) (d := d) (ty := ty) (pos := pos) (af := af) (g := g) hd ht hx
  rwa [hw] at this
end
end Go.Proofs.Ytmlkabddhdkpaaa

/- Steps that write or make memory. -/
namespace Go.Proofs.Ytmlkabddhdkpaaa
set_option maxRecDepth 100000
set_option linter.unusedSimpArgs false
set_option linter.unusedVariables false
open Go Go.RowKit

/-- what a row that the call owns holds: l, with room for cap -/
structure Own {α : Type} (r : Rep α) (cur : Array Value) (cap : Nat) (l : List α) : Prop where
  size : cur.size = cap * r.sz
  le : l.length ≤ cap
  max : cap ≤ 9223372036854775807
  rw : Rw r cur l

theorem Own.slAt {α : Type} {r : Rep α} {S : List Nat} {w0 w : World} {L : List (Nat × Obj)} {b cap : Nat} {cur : Array Value} {e : TypeId} {fr : Nat × Nat} {l : List α} (o : Own r cur cap l) (h : Hp S w0 w L) (i : Nat) (hi : L[i]? = some (b, .cells cur e fr)) : Sl r w (some ⟨b, 0, none⟩) l :=
  o.rw.sl (h.at i hi) (by have := o.le; have := o.max; omega)
theorem New.of {α : Type} {r : Rep α} {e : TypeId} {S : List Nat} {w0 w : World} {L : List (Nat × Obj)} {b cap : Nat} {cur : Array Value} {l : List α} (h : Hp S w0 w ((b, .cells cur e (0, 0)) :: L)) (o : Own r cur cap l) (hb : w0.heap.size ≤ b) : New r e w0 w (vsl b l.length cap) l :=
  ⟨b, cap, cur, rfl, hb, h.at 0 rfl, o.size, o.le, by simpa [maxLen] using o.max, o.rw⟩

theorem Hp.f1 {S : List Nat} {w0 w : World} {L : List (Nat × Obj)} {a b : Nat × Obj} (h : Hp S w0 w (a :: b :: L)) : Hp S w0 w (b :: a :: L) := h.front 1 rfl
theorem Hp.f2 {S : List Nat} {w0 w : World} {L : List (Nat × Obj)} {a b c : Nat × Obj} (h : Hp S w0 w (a :: b :: c :: L)) : Hp S w0 w (c :: a :: b :: L) := h.front 2 rfl
theorem Hp.f3 {S : List Nat} {w0 w : World} {L : List (Nat × Obj)} {a b c d : Nat × Obj} (h : Hp S w0 w (a :: b :: c :: d :: L)) : Hp S w0 w (d :: a :: b :: c :: L) := h.front 3 rfl
theorem Hp.f4 {S : List Nat} {w0 w : World} {L : List (Nat × Obj)} {a b c d e : Nat × Obj} (h : Hp S w0 w (a :: b :: c :: d :: e :: L)) : Hp S w0 w (e :: a :: b :: c :: d :: L) := h.front 4 rfl

section
variable {P : Program} {n : Nat} {Q : Exit → Act → World → Prop} {σ : Env} {w w0 : World} {ops : Array Oper} {rest : List Oper} {S : List Nat} {L : List (Nat × Obj)}
variable {d : Nat} {ty : TypeId} {pos : String} {af : Array Edge} {g : Option (Nat × Bool)} {x y : Operand} {t e : TypeId}

theorem WL.alloc {z : Value} {sz by' : Nat} {cs : Array Value} (he : Ty P e z sz by') (hz : z.cells = cs) (hn : Nat.blt d n = true) (hw : Wt ops ⟨some d, .alloc e, ty, pos, af, g⟩ σ true) (hH : Hp S w0 w L)
    (h : ∀ b w', w.heap.size ≤ b → Keep [] w w' → Hp S w0 w' ((b, .cells cs e (0, 0)) :: L) → WL P n ops Q rest ((d, vptr b 0) :: σ) w') : WL P n ops Q (⟨some d, .alloc e, ty, pos, af, g⟩ :: rest) σ w := by
  obtain ⟨i, h1, h2, h3, h4⟩ := he
  refine WL.u rfl hn hw (v := vptr w.heap.size 0) (w' := w.alloc (.cells cs e (0, 0))) (fun a _ => ?_) (h _ _ (Nat.le_refl _) (Keep.alloc [] w _) (hH.alloc _))
  simp [execOp, Instr.alloc, zeroValue, typeInfo, h1, h2, newVar, newRow, hz]

theorem WL.box {v : Value} {cs : Array Value} (hx : ev σ x = some v) (hz : v.cells = cs) (hn : Nat.blt d n = true) (hw : Wt ops ⟨some d, .box e x, ty, pos, af, g⟩ σ true) (hH : Hp S w0 w L)
    (h : ∀ b w', w.heap.size ≤ b → Keep [] w w' → Hp S w0 w' ((b, .cells cs e (0, 0)) :: L) → WL P n ops Q rest ((d, vptr b 0) :: σ) w') : WL P n ops Q (⟨some d, .box e x, ty, pos, af, g⟩ :: rest) σ w := by
  refine WL.u rfl hn hw (v := vptr w.heap.size 0) (w' := w.alloc (.cells cs e (0, 0))) (fun a ha => ?_) (h _ _ (Nat.le_refl _) (Keep.alloc [] w _) (hH.alloc _))
  simp [execOp, ha.evl hx, Instr.box, newVar, newRow, hz]

theorem frozen_at {b off : Nat} {cs : Array Value} {t : TypeId} {fr : Nat × Nat} (h : w.heap[b]? = some (.cells cs t fr)) : w.frozen? ⟨b, off, none⟩ = (decide (fr.1 ≤ off) && decide (off < fr.2)) := by
  simp [World.frozen?, h]

/-- a store of one cell -/
theorem WL.store1 {b off : Nat} {v : Value} {cs : Array Value} {te : TypeId} {fr : Nat × Nat} {z : Value} {by' : Nat} (ht : Ty P t z 1 by') (hx : ev σ x = some (vptr b off)) (hy : ev σ y = some v) (hv : v.oneCell' = true) (hw : Wt ops ⟨none, .store t x y, ty, pos, af, g⟩ σ true)
    (hH : Hp S w0 w ((b, .cells cs te fr) :: L)) (ho : off < cs.size) (hf : (decide (fr.1 ≤ off) && decide (off < fr.2)) = false)
    (h : ∀ w', Keep [b] w w' → Hp S w0 w' ((b, .cells (cs.setIfInBounds off v) te fr) :: L) → WL P n ops Q rest σ w') : WL P n ops Q (⟨none, .store t x y, ty, pos, af, g⟩ :: rest) σ w := by
  obtain ⟨i, h1, h2, h3, h4⟩ := ht
  have hb := hH.at 0 rfl
  refine WL.s rfl hw (w' := w.setCell ⟨b, off, none⟩ v) (fun a ha => ?_) (h _ (keep_setCell w b off v) (hH.setCell off v))
  have hc : w.cell? ⟨b, off, none⟩ = some cs[off] := by rw [cell_of_row w b off cs te fr hb]; simp [ho]
  have hfr : w.frozen? ⟨b, off, none⟩ = false := (frozen_at hb).trans hf
  have h5 : v.cells = #[v] := by cases v <;> first | rfl | (simp [Value.oneCell'] at hv)
  have h6 := run_store P w ⟨b, off, none⟩ v .plain hv
  simp only [hc, hfr] at h6
  simp [execOp, ha.evl hx, ha.evl hy, Instr.storeAt, Instr.sureAddr, storeVar, sizeOf, typeInfo, h1, h3, h5, storeCells, Addr.add_lit, h6]
/-- a store of a pair -/
theorem WL.store2 {b : Nat} {v v' u u' : Value} {te : TypeId} {z : Value} {by' : Nat} (ht : Ty P t z 2 by') (hx : ev σ x = some (vptr b 0)) (hy : ev σ y = some (.agg #[v, v'])) (hv : v.oneCell' = true) (hv' : v'.oneCell' = true) (hw : Wt ops ⟨none, .store t x y, ty, pos, af, g⟩ σ true)
    (hH : Hp S w0 w ((b, .cells #[u, u'] te (0, 0)) :: L))
    (h : ∀ w', Keep [b] w w' → Hp S w0 w' ((b, .cells #[v, v'] te (0, 0)) :: L) → WL P n ops Q rest σ w') : WL P n ops Q (⟨none, .store t x y, ty, pos, af, g⟩ :: rest) σ w := by
  obtain ⟨i, h1, h2, h3, h4⟩ := ht
  have hb := hH.at 0 rfl
  have hH1 := hH.setCell 0 v
  have hb1 := hH1.at 0 rfl
  have hH2 := hH1.setCell 1 v'
  refine WL.s rfl hw (w' := (w.setCell ⟨b, 0, none⟩ v).setCell ⟨b, 1, none⟩ v') (fun a ha => ?_) (h _ ((keep_setCell w b 0 v).trans (keep_setCell _ b 1 v')) hH2)
  have hc : w.cell? ⟨b, 0, none⟩ = some u := by rw [cell_of_row w b 0 _ te _ hb]; rfl
  have hc1 : (w.setCell ⟨b, 0, none⟩ v).cell? ⟨b, 1, none⟩ = some u' := by rw [cell_of_row _ b 1 _ te _ hb1]; rfl
  have hfr : w.frozen? ⟨b, 0, none⟩ = false := (frozen_at hb).trans (by simp)
  have hfr1 : (w.setCell ⟨b, 0, none⟩ v).frozen? ⟨b, 1, none⟩ = false := (frozen_at hb1).trans (by simp)
  have h6 := run_store P w ⟨b, 0, none⟩ v .plain hv
  have h7 := run_store P (w.setCell ⟨b, 0, none⟩ v) ⟨b, 1, none⟩ v' .plain hv'
  simp only [hc, hfr] at h6
  simp only [hc1, hfr1] at h7
  simp [execOp, ha.evl hx, ha.evl hy, Instr.storeAt, Instr.sureAddr, storeVar, sizeOf, typeInfo, h1, h3, Value.cells, storeCells, Addr.add_lit, h6, h7]

/-- a slice literal -/
theorem WL.buildSlice {z : Value} {sz by' k : Nat} {parts : List (Nat × Operand)} {pv : List (Nat × Value)} {cs : Array Value} (ht : P.underlying t = some (.slice e)) (he : Ty P e z sz by') (hp : parts.map (·.1) = pv.map (·.1)) (hv : evs σ (parts.map (·.2)) = some (pv.map (·.2)))
    (hk : decide (k * sz ≤ 1000) = true) (hf : Instr.fill (fun i => some (i * sz, sz)) ((Array.range (k * sz)).map (fun i => z.cells[i % z.cells.size]!)) pv = some cs)
    (hn : Nat.blt d n = true) (hw : Wt ops ⟨some d, .buildSlice t k parts.toArray, ty, pos, af, g⟩ σ true) (hH : Hp S w0 w L)
    (h : ∀ b w', w.heap.size ≤ b → Keep [] w w' → Hp S w0 w' ((b, .cells cs e (0, 0)) :: L) → WL P n ops Q rest ((d, vsl b k k) :: σ) w') : WL P n ops Q (⟨some d, .buildSlice t k parts.toArray, ty, pos, af, g⟩ :: rest) σ w := by
  obtain ⟨i, h1, h2, h3, h4⟩ := he
  have hk' : ¬ (16777216 < k * sz) := by have := of_decide_eq_true hk; omega
  refine WL.u rfl hn hw (v := vsl w.heap.size k k) (w' := w.alloc (.cells cs e (0, 0))) (fun a ha => ?_) (h _ _ (Nat.le_refl _) (Keep.alloc [] w _) (hH.alloc _))
  have hpv : parts.map (fun p => (p.1, a.eval p.2)) = pv := by
    have h5 := ha.evsl hv
    rw [List.map_map] at h5
    have h6 : (parts.map (fun p => (p.1, a.eval p.2))).map (·.1) = pv.map (·.1) := by rw [List.map_map, ← hp]; rfl
    have h7 : (parts.map (fun p => (p.1, a.eval p.2))).map (·.2) = pv.map (·.2) := by rw [List.map_map, ← h5]; rfl
    have key : ∀ (l m : List (Nat × Value)), l.map (·.1) = m.map (·.1) → l.map (·.2) = m.map (·.2) → l = m := by
      intro l
      induction l with
      | nil => intro m h _; cases m with
        | nil => rfl
        | cons _ _ => simp at h
      | cons p l ih => intro m ha hb; cases m with
        | nil => simp at ha
        | cons q m =>
          simp only [List.map_cons, List.cons.injEq] at ha hb
          rw [ih m ha.2 hb.2, show p = q from Prod.ext ha.1 hb.1]
    exact key _ _ h6 h7
  by_cases h0 : k * sz = 0
  · have hf' : Instr.fill (fun i => some (i * sz, sz)) #[] pv = some cs := by
      rw [h0] at hf
      simpa [Array.range_zero'] using hf
    simp [execOp, Instr.buildSlice, run_underlying ht, sizeOf, typeInfo, h1, h3, h0, hpv, hf', newRow, Array.range_zero']
  · simp [execOp, Instr.buildSlice, run_underlying ht, sizeOf, typeInfo, zeroValue, h1, h2, h3, h0, hk', hpv, hf, newRow]

theorem fill_one : ∀ (vs pre zs : List Value), vs.all Value.oneCell' = true → vs.length ≤ zs.length →
    Instr.fill (fun i => some (i * 1, 1)) (pre ++ zs).toArray ((List.range' pre.length vs.length).zip vs) = some (pre ++ vs ++ zs.drop vs.length).toArray
  | [], pre, zs, _, _ => by simp [Instr.fill]
  | v :: vs, pre, zs, h, hl => by
    simp only [List.all_cons, Bool.and_eq_true] at h
    have hc : v.cells = #[v] := by cases v <;> first | rfl | (simp [Value.oneCell'] at h)
    cases zs with
    | nil => simp at hl
    | cons z zs =>
      simp only [List.length_cons, Nat.add_le_add_iff_right] at hl
      have ih := fill_one vs (pre ++ [v]) zs h.2 hl
      simp only [List.length_append, List.length_singleton] at ih
      simp only [List.length_cons, List.range'_succ, List.zip_cons_cons]
      rw [Instr.fill]
      simp only [hc, List.size_toArray, List.length_singleton, ne_eq, not_true_eq_false, decide_false, Bool.false_or]
      have e : (pre ++ z :: zs).toArray.setIfInBounds (pre.length * 1) v = (pre ++ [v] ++ zs).toArray := by
        simp
      simpa using ih
/-- a slice literal of one-cell elements, all written out -/
theorem WL.lit {z : Value} {by' k : Nat} {parts : List (Nat × Operand)} {vs : List Value} (ht : P.underlying t = some (.slice e)) (he : Ty P e z 1 by') (hz : z.cells.size = 1) (hv : evs σ (parts.map (·.2)) = some vs) (hp : parts.map (·.1) = List.range' 0 vs.length) (hk : k = vs.length) (h1 : vs.all Value.oneCell' = true) (hs : decide (k * 1 ≤ 1000) = true)
    (hn : Nat.blt d n = true) (hw : Wt ops ⟨some d, .buildSlice t k parts.toArray, ty, pos, af, g⟩ σ true) (hH : Hp S w0 w L)
    (h : ∀ b w', w.heap.size ≤ b → Keep [] w w' → Hp S w0 w' ((b, .cells vs.toArray e (0, 0)) :: L) → WL P n ops Q rest ((d, vsl b k k) :: σ) w') : WL P n ops Q (⟨some d, .buildSlice t k parts.toArray, ty, pos, af, g⟩ :: rest) σ w := by
  subst hk
  refine WL.buildSlice (pv := (List.range' 0 vs.length).zip vs) ht he ?_ ?_ hs ?_ hn hw hH h
  · rw [hp, List.map_fst_zip]; simp
  · rw [hv, List.map_snd_zip]; simp
  · have := fill_one vs [] ((Array.range (vs.length * 1)).map (fun i => z.cells[i % z.cells.size]!)).toList h1 (by simp)
    simp only [List.nil_append, List.length_nil] at this
    rw [Array.toArray_toList] at this
    rw [this]
    simp

/-- an empty slice literal -/
theorem WL.lit0 {z : Value} {sz by' : Nat} (ht : P.underlying t = some (.slice e)) (he : Ty P e z sz by')
    (hn : Nat.blt d n = true) (hw : Wt ops ⟨some d, .buildSlice t 0 #[], ty, pos, af, g⟩ σ true) (hH : Hp S w0 w L)
    (h : ∀ b w', w.heap.size ≤ b → Keep [] w w' → Hp S w0 w' ((b, .cells #[] e (0, 0)) :: L) → WL P n ops Q rest ((d, vsl b 0 0) :: σ) w') : WL P n ops Q (⟨some d, .buildSlice t 0 #[], ty, pos, af, g⟩ :: rest) σ w :=
  WL.buildSlice (parts := []) (pv := []) (k := 0) ht he rfl rfl (by simp) (by simp [Instr.fill, Array.range_zero']) hn hw hH h

theorem rw_append {α : Type} {r : Rep α} {cur : Array Value} {l : List α} (u : α) (h : Rw r cur l) (more : List Value) : Rw r (cur.toList.take (l.length * r.sz) ++ r.cells u ++ more).toArray (l ++ [u]) := by
  unfold Rw at *
  have h2 : (l.flatMap r.cells ++ r.cells u).length = (l ++ [u]).length * r.sz := by rw [List.length_append, length_flat, r.len, List.length_append, List.length_singleton, Nat.add_mul, Nat.one_mul]
  rw [h, List.flatMap_append, List.flatMap_singleton, ← h2]
  exact List.take_left

theorem exec_append {s y : Operand} {ty2 : TypeId} {pos2 : String} {af2 : Array Edge} {g2 : Option (Nat × Bool)} {d2 : Option Nat} {a : Act} {u v : Value} {t' : TypeId} (ha : Fits n σ a) (hs : ev σ s = some u) (hy : ev σ y = some v) {v' : Value} {w' : World} (h : (Builtin.append_ #[t, t'] ty2 #[u, v]).run P w = .ok v' w') :
    (execOp a.eval ⟨d2, .call { callee := .builtin .append, args := #[s, y], argTypes := #[t, t'] }, ty2, pos2, af2, g2⟩).run P w = .ok (.value v') w' := by
  simp [execOp, resolve, invoke, builtin, ha.evl hs, ha.evl hy, h]

/-- appending to a row of the call's own a slice that reads so -/
theorem run_append_hp {α : Type} {r : Rep α} {z : Value} {by' b cap : Nat} {cur : Array Value} {l m : List α} {c b2 off2 : Nat} {ty2 : TypeId}
    (ht : P.underlying t = some (.slice e)) (he : Ty P e z r.sz by') (hzs : z.cells.size = r.sz)
    (hH : Hp S w0 w ((b, .cells cur e (0, 0)) :: L)) (ho : Own r cur cap l) (hsl : ∀ j v, (m.flatMap r.cells)[j]? = some v → w.cell? ⟨b2, off2 + j, none⟩ = some v) (hb : (l.length + m.length) * by' ≤ 140737488355328) (hm : l.length + m.length ≤ 9223372036854775807) :
    ∃ b' cap' cur' w', (Builtin.append_ #[t, t] ty2 #[vsl b l.length cap, .slice (some ⟨b2, off2, none⟩) m.length c]).run P w = .ok (vsl b' (l ++ m).length cap') w' ∧ (b' = b ∨ w.heap.size ≤ b') ∧ Keep [b] w w' ∧ Hp S w0 w' ((b', .cells cur' e (0, 0)) :: L) ∧ Own r cur' cap' (l ++ m) := by
  obtain ⟨i, h1, h2, h3, h4⟩ := he
  have hbk := hH.at 0 rfl
  dsimp only at hbk
  have hlen : (l ++ m).length = l.length + m.length := List.length_append
  have hflat : ((l ++ m).flatMap r.cells).length = (l ++ m).length * r.sz := length_flat r _
  have htake : cur.toList.take (l.length * r.sz) = l.flatMap r.cells := ho.rw
  have hnews : ∀ j v, (m.flatMap r.cells)[j]? = some v → w.cell? ((⟨b2, off2, none⟩ : Addr).add j) = some v := fun j v hv => by rw [Addr.add_lit]; exact hsl j v hv
  have h1' : ∀ u ∈ m.flatMap r.cells, u.oneCell' = true := fun u hu => by
    obtain ⟨y, _, hy⟩ := List.mem_flatMap.1 hu
    exact r.one y u hy
  by_cases hroom : l.length + m.length ≤ cap
  · have hr := run_append_room (P := P) w t ty2 e i ht h1 b l.length cap cur hbk ⟨b2, off2, none⟩ m.length c (m.flatMap r.cells) (by rw [length_flat, h3]) hnews h1' hroom (by rw [h3, length_flat, ho.size, ← Nat.add_mul]; exact Nat.mul_le_mul_right _ hroom)
    have hset := setRow_heap w b cur (cur.toList.take (l.length * i.size) ++ m.flatMap r.cells ++ cur.toList.drop (l.length * i.size + (m.flatMap r.cells).length)).toArray e (0, 0) hbk
    rw [← hlen] at hr
    have hk : Keep [b] w (w.setRow b (cur.toList.take (l.length * i.size) ++ m.flatMap r.cells ++ cur.toList.drop (l.length * i.size + (m.flatMap r.cells).length)).toArray) :=
      ⟨rfl, rfl, rfl, by simp, fun k hk hs => setRow_other w b k _ (by simpa using hs)⟩
    refine ⟨b, cap, _, _, hr, .inl rfl, hk, hH.turn hk hset, ⟨?_, by omega, ho.max, ?_⟩⟩
    · rw [h3]
      simp only [List.size_toArray, List.length_append, List.length_take, List.length_drop, Array.length_toList, length_flat]
      have := ho.size
      have h6 : l.length * r.sz + m.length * r.sz ≤ cap * r.sz := by rw [← Nat.add_mul]; exact Nat.mul_le_mul_right _ hroom
      omega
    · unfold Rw
      rw [h3, htake, ← List.flatMap_append, ← hflat]
      exact List.take_left
  · have hr := run_append_grow (P := P) w t ty2 e i z ht h1 h2 ⟨b, 0, none⟩ l.length cap (l.flatMap r.cells) (by rw [length_flat, h3])
      (fun j v hv => by
        rw [Addr.add_lit, cell_of_row w b _ cur e (0, 0) hbk, Nat.zero_add]
        rw [← htake, List.getElem?_take] at hv
        split at hv
        · simpa using hv
        · cases hv)
      ⟨b2, off2, none⟩ m.length c (m.flatMap r.cells) (by rw [length_flat, h3]) hnews (by omega) (by omega) (growslice_fits (by omega) (by rw [h4]; exact hb))
    have hge := grownCap_ge w (l.length + m.length) cap e
    have hcm : grownCap w (l.length + m.length) cap e ≤ maxLen := grownCap_le_maxLen w _ cap e (by simp [maxLen]; omega)
    simp only [maxLen] at hcm
    have hH' := hH.drew.tail.alloc (.cells ((l.flatMap r.cells).toArray ++ (m.flatMap r.cells).toArray ++ Builtin.zeroCells z.cells (grownCap w (l.length + m.length) cap e - (l.length + m.length))) e)
    rw [← hlen] at hr hH' hge hcm
    refine ⟨w.heap.size, _, _, _, hr, .inr (Nat.le_refl _), (Keep.drew [b] w).trans (Keep.alloc [b] w.drew _), hH', ⟨?_, hge, by omega, ?_⟩⟩
    · rw [hlen]
      rw [hlen] at hge
      simp only [Array.size_append, List.size_toArray, size_zeroCells, hzs, length_flat, ← Nat.add_mul]
      congr 1
      omega
    · unfold Rw
      simp only [Array.toList_append]
      rw [← List.flatMap_append, ← hflat]
      exact List.take_left

theorem fold_set : ∀ (l pre zs : List Value), l.length ≤ zs.length → (l.zipIdx pre.length).foldl (fun (cs : Array Value) p => cs.setIfInBounds p.2 p.1) (pre ++ zs).toArray = (pre ++ l ++ zs.drop l.length).toArray
  | [], pre, zs, _ => by simp
  | x :: l, pre, [], h => by simp at h
  | x :: l, pre, z :: zs, h => by
    simp only [List.length_cons, Nat.add_le_add_iff_right] at h
    have ih := fold_set l (pre ++ [x]) zs h
    simp only [List.length_append, List.length_singleton] at ih
    simp only [List.zipIdx_cons, List.foldl_cons]
    have e : (pre ++ z :: zs).toArray.setIfInBounds pre.length x = (pre ++ [x] ++ zs).toArray := by simp
    rw [e, ih]
    simp
theorem fill_rep {α : Type} (r : Rep α) {z : Value} (hzs : z.cells.size = r.sz) (u : α) : Instr.fill (fun i => some (i * r.sz, r.sz)) ((Array.range (1 * r.sz)).map (fun i => z.cells[i % z.cells.size]!)) [(0, r.val u)] = some (r.cells u).toArray := by
  have hsz := r.len u
  have hf := fold_set (r.cells u) [] ((Array.range (1 * r.sz)).map (fun i => z.cells[i % z.cells.size]!)).toList (by simp [hsz])
  simp only [List.nil_append, List.length_nil, Array.toArray_toList] at hf
  have hd : (((Array.range (1 * r.sz)).map (fun i => z.cells[i % z.cells.size]!)).toList.drop (r.cells u).length) = [] := by simp [hsz]
  rw [hd, List.append_nil] at hf
  simp only [Instr.fill, r.vc u]
  rw [if_neg (by simp [hsz])]
  refine congrArg some (Eq.trans ?_ hf)
  simp

/-- append(s, x) onto a row of the call's own: the literal and the append -/
theorem WL.append1 {α : Type} {r : Rep α} {z : Value} {by' : Nat} {b cap d1 d2 : Nat} {cur : Array Value} {l : List α} {u : α} {s : Operand} {ty1 ty2 : TypeId} {pos1 pos2 : String} {af1 af2 : Array Edge} {g1 g2 : Option (Nat × Bool)}
    (ht : P.underlying t = some (.slice e)) (he : Ty P e z r.sz by') (hzs : z.cells.size = r.sz)
    (hx : ev σ x = some (r.val u)) (hs : ∀ v, ev ((d1, v) :: σ) s = some (vsl b l.length cap)) (hd : ∀ v, ev ((d1, v) :: σ) (.tmp d1) = some v)
    (hn1 : Nat.blt d1 n = true) (hn2 : Nat.blt d2 n = true)
    (hw1 : Wt ops ⟨some d1, .buildSlice t 1 [(0, x)].toArray, ty1, pos1, af1, g1⟩ σ true) (hw2 : ∀ v, Wt ops ⟨some d2, .call { callee := .builtin .append, args := #[s, .tmp d1], argTypes := #[t, t] }, ty2, pos2, af2, g2⟩ ((d1, v) :: σ) true)
    (hH : Hp S w0 w ((b, .cells cur e (0, 0)) :: L)) (ho : Own r cur cap l) (hk : decide (1 * r.sz ≤ 1000) = true) (hb : (l.length + 1) * by' ≤ 140737488355328) (hm : l.length + 1 ≤ 9223372036854775807)
    (h : ∀ b' cap' cur' w' v1, (b' = b ∨ w.heap.size ≤ b') → Keep [b] w w' → Hp S w0 w' ((b', .cells cur' e (0, 0)) :: L) → Own r cur' cap' (l ++ [u]) → WL P n ops Q rest ((d2, vsl b' (l ++ [u]).length cap') :: (d1, v1) :: σ) w') :
    WL P n ops Q (⟨some d1, .buildSlice t 1 [(0, x)].toArray, ty1, pos1, af1, g1⟩ :: ⟨some d2, .call { callee := .builtin .append, args := #[s, .tmp d1], argTypes := #[t, t] }, ty2, pos2, af2, g2⟩ :: rest) σ w := by
  have hx' : evs σ ([(0, x)].map (·.2)) = some ([(0, r.val u)].map (·.2)) := by simp [evs, hx]
  refine WL.buildSlice (parts := [(0, x)]) (pv := [(0, r.val u)]) ht he rfl hx' hk (fill_rep r hzs u) hn1 hw1 hH fun b1 w1 hb1 hk1 hH1 => ?_
  have hcell := hH1.at 0 rfl
  obtain ⟨b', cap', cur', w', hr, h5, h6, h7, h8⟩ := run_append_hp (P := P) (ty2 := ty2) (c := 1) (b2 := b1) (off2 := 0) (m := [u]) ht he hzs hH1.f1 ho (fun j v hv => by
    rw [cell_of_row w1 b1 (0 + j) _ e (0, 0) hcell, Nat.zero_add]
    simpa using hv) hb hm
  refine WL.u rfl hn2 (hw2 _) (fun a ha => exec_append ha (hs _) (hd _) hr) (h b' cap' cur' w' _ ?_ (hk1.nil.trans h6) (Hp.tail (Hp.f1 h7)) h8)
  rcases h5 with h5 | h5
  · exact .inl h5
  · exact .inr (Nat.le_trans hk1.size h5)
end
end Go.Proofs.Ytmlkabddhdkpaaa

/- Regions that draw their order. -/
namespace Go.Proofs.Ytmlkabddhdkpaaa
set_option maxRecDepth 100000
set_option linter.unusedSimpArgs false
set_option linter.unusedVariables false
open Go Go.RowKit

/-- w' is w after some draws -/
def Dr (w w' : World) : Prop := ∃ m, w' = w.drewN m
theorem Dr.refl (w : World) : Dr w w := ⟨0, rfl⟩
theorem Dr.trans {a b c : World} (h : Dr a b) (k : Dr b c) : Dr a c := by
  obtain ⟨m, rfl⟩ := h; obtain ⟨l, rfl⟩ := k; exact ⟨m + l, by rw [World.drewN_drewN]⟩
theorem Dr.drew (w : World) : Dr w w.drew := ⟨1, rfl⟩
theorem Dr.heap {w w' : World} (h : Dr w w') : w'.heap = w.heap := by obtain ⟨m, rfl⟩ := h; rfl
theorem Dr.keep {w w' : World} (h : Dr w w') (S : List Nat) : Keep S w w' := by obtain ⟨m, rfl⟩ := h; exact ⟨rfl, rfl, rfl, Nat.le_refl _, fun _ _ _ => rfl⟩
theorem Hp.dr {S : List Nat} {w0 w w' : World} {L : List (Nat × Obj)} (h : Hp S w0 w L) (d : Dr w w') : Hp S w0 w' L := h.call (d.keep [])
theorem Sl.dr {α : Type} {r : Rep α} {w w' : World} {a : Option Addr} {l : List α} (h : Sl r w a l) (d : Dr w w') : Sl r w' a l := h.kept (d.keep [])

section
variable {P : Program} {n : Nat} {Q : Exit → Act → World → Prop} {Qa : Act → Prop} {σ : Env} {w : World} {ops : Array Oper} {rest : List Oper} {o : Oper}

def WQ (P : Program) (n : Nat) (ops : Array Oper) (C : World → Prop) (Qa : Act → Prop) (l : List Oper) (σ : Env) : Prop := ∀ a, Fits n σ a → wpQuiet P ops C Qa l a
def WS (P : Program) (n : Nat) (ops : Array Oper) (w : World) (Qa : Act → Prop) (l : List Oper) (σ : Env) : Prop := ∀ a, Fits n σ a → wpStill P ops w Qa l a

theorem WC.quiet {id : Nat} {l : List Oper} (hm : P.follows .mixedOrders = true) (hB : Region.lexB .any l.toArray = true) (h : WQ P n l.toArray (Dr w) (fun a' => ∀ w', Dr w w' → Q .normal a' w') l σ) : WC P n (.region id l.toArray true) Q σ w :=
  fun a ha => wp_region_quiet (C := Dr w) hm hB (Dr.drew w) (by simpa using h a ha)
theorem WC.quietK {id : Nat} {l : List Oper} (hm : P.follows .mixedOrders = true) (hB : Region.lexB .any l.toArray = true) (h : WQ P n l.toArray (Keep [] w) (fun a' => ∀ w', Keep [] w w' → Q .normal a' w') l σ) : WC P n (.region id l.toArray true) Q σ w :=
  fun a ha => wp_region_quiet (C := Keep [] w) hm hB (Keep.drew [] w) (by simpa using h a ha)
theorem WC.tail {id : Nat} {l : List Oper} (k : Nat) (hm : P.follows .mixedOrders = true) (hB : Region.lexTailB .any l.toArray k = true) (h : WS P n l.toArray w.drew (fun a' => wpList P l.toArray Q (l.drop k) a' w.drew) (l.take k) σ) : WC P n (.region id l.toArray true) Q σ w :=
  fun a ha => wp_region_still_tail k hm hB (h a ha)

theorem WQ.nil {C : World → Prop} (h : ∀ w', C w' → WN n (Q .normal) σ w') : WQ P n ops C (fun a' => ∀ w', C w' → Q .normal a' w') [] σ := fun a ha w' hw => h w' hw a ha
theorem WS.nil {l : List Oper} (h : WL P n ops Q l σ w) : WS P n ops w (fun a' => wpList P ops Q l a' w) [] σ := h

theorem WQ.u {d : Nat} {v : Value} {C : World → Prop} (hd : o.dst = some d) (hn : Nat.blt d n = true) (hw : Wt ops o σ true) (he : ∀ w', C w' → Ex P n o σ w' v w') (h : WQ P n ops C Qa rest ((d, v) :: σ)) : WQ P n ops C Qa (o :: rest) σ := fun a ha => by
  unfold wpQuiet
  rw [if_pos (hw n a ha)]
  refine ⟨v, fun w' hw' => ?_, ?_⟩
  · unfold Oper.quietAt
    rw [he w' hw' a ha]
    exact ⟨rfl, rfl⟩
  · rw [hd]; exact h _ (ha.put hn v)
theorem WS.u {d : Nat} {v : Value} (hd : o.dst = some d) (hn : Nat.blt d n = true) (hw : Wt ops o σ true) (he : Ex P n o σ w v w) (h : WS P n ops w Qa rest ((d, v) :: σ)) : WS P n ops w Qa (o :: rest) σ := fun a ha => by
  unfold wpStill
  rw [if_pos (hw n a ha)]
  unfold Oper.still
  rw [he a ha]
  exact ⟨rfl, by rw [hd]; exact h _ (ha.put hn v)⟩
theorem WQ.pass {d : Nat} {C : World → Prop} (hd : o.dst = some d) (hn : Nat.blt d n = true) (hw : Wt ops o σ false) (h : WQ P n ops C Qa rest ((d, undef) :: σ)) : WQ P n ops C Qa (o :: rest) σ := fun a ha => by
  unfold wpQuiet
  rw [if_neg (by rw [hw n a ha]; simp), hd]
  exact h _ (ha.put hn undef)
theorem WS.pass {d : Nat} (hd : o.dst = some d) (hn : Nat.blt d n = true) (hw : Wt ops o σ false) (h : WS P n ops w Qa rest ((d, undef) :: σ)) : WS P n ops w Qa (o :: rest) σ := fun a ha => by
  unfold wpStill
  rw [if_neg (by rw [hw n a ha]; simp), hd]
  exact h _ (ha.put hn undef)

/-- a guard's two ways -/
theorem WL.split {l : List Oper} {t : Nat} {c : Bool} (_h : look σ t = some (.bool c)) (ht : c = true → WL P n ops Q l σ w) (hf : c = false → WL P n ops Q l σ w) : WL P n ops Q l σ w := by cases c; exact hf rfl; exact ht rfl
theorem WQ.split {C : World → Prop} {l : List Oper} {t : Nat} {c : Bool} (_h : look σ t = some (.bool c)) (ht : c = true → WQ P n ops C Qa l σ) (hf : c = false → WQ P n ops C Qa l σ) : WQ P n ops C Qa l σ := by cases c; exact hf rfl; exact ht rfl
theorem WS.split {l : List Oper} {t : Nat} {c : Bool} (_h : look σ t = some (.bool c)) (ht : c = true → WS P n ops w Qa l σ) (hf : c = false → WS P n ops w Qa l σ) : WS P n ops w Qa l σ := by cases c; exact hf rfl; exact ht rfl

/-- a contract in a class of worlds: E (the world is as it was), R (after draws), H (kept) -/
theorem Fn.e {f : FuncId} {args : List Value} {v : Value} {w : World} {C : World → Prop} (c : C w) (h : Fn P f args w (fun v' w1 => v' = v ∧ w1 = w)) : Fn P f args w (fun v' w1 => v' = v ∧ C w1) := h.mono fun _ _ ⟨h1, h2⟩ => ⟨h1, by rw [h2]; exact c⟩
theorem Fn.r {f : FuncId} {args : List Value} {v : Value} {w0 w : World} (c : Dr w0 w) (h : Fn P f args w (fun v' w1 => v' = v ∧ Dr w w1)) : Fn P f args w (fun v' w1 => v' = v ∧ Dr w0 w1) := h.mono fun _ _ ⟨h1, h2⟩ => ⟨h1, c.trans h2⟩
theorem Fn.rk {f : FuncId} {args : List Value} {v : Value} {w0 w : World} (c : Keep [] w0 w) (h : Fn P f args w (fun v' w1 => v' = v ∧ Dr w w1)) : Fn P f args w (fun v' w1 => v' = v ∧ Keep [] w0 w1) := h.mono fun _ _ ⟨h1, h2⟩ => ⟨h1, c.trans (h2.keep [])⟩
theorem Fn.k {f : FuncId} {args : List Value} {v : Value} {w0 w : World} (c : Keep [] w0 w) (h : Fn P f args w (fun v' w1 => v' = v ∧ Keep [] w w1)) : Fn P f args w (fun v' w1 => v' = v ∧ Keep [] w0 w1) := h.mono fun _ _ ⟨h1, h2⟩ => ⟨h1, c.trans h2⟩
theorem WQ.call {f : FuncId} {fo : Operand} {args : List Operand} {ats : Array TypeId} {vs cs : List Value} {d : Nat} {ty : TypeId} {pos : String} {af : Array Edge} {g : Option (Nat × Bool)} {v : Value} {C : World → Prop}
    (hc : Callable P f) (hn : Nat.blt d n = true) (hw : Wt ops ⟨some d, .call { callee := .value fo, args := args.toArray, argTypes := ats }, ty, pos, af, g⟩ σ true)
    (hf : ev σ fo = some (.func (.func f) #[] cs.toArray)) (hv : evs σ args = some vs) (hk : ∀ w', C w' → Fn P f (vs ++ cs) w' (fun v' w1 => v' = v ∧ C w1))
    (h : WQ P n ops C Qa rest ((d, v) :: σ)) : WQ P n ops C Qa (⟨some d, .call { callee := .value fo, args := args.toArray, argTypes := ats }, ty, pos, af, g⟩ :: rest) σ := fun a ha => by
  unfold wpQuiet
  rw [if_pos (hw n a ha)]
  refine ⟨v, fun w' hw' => ?_, h _ (ha.put hn v)⟩
  unfold Oper.quietAt
  rw [exec_call hc ha hf hv]
  refine ⟨rfl, Calls.mono (hk w' hw') fun e w'' r => ?_⟩
  cases e with
  | returned u => exact ⟨by rw [r.1], r.2⟩
  | panicked _ => exact r.elim
  | outgrown => exact r.elim
theorem WS.call {f : FuncId} {fo : Operand} {args : List Operand} {ats : Array TypeId} {vs cs : List Value} {d : Nat} {ty : TypeId} {pos : String} {af : Array Edge} {g : Option (Nat × Bool)} {v : Value}
    (hc : Callable P f) (hn : Nat.blt d n = true) (hw : Wt ops ⟨some d, .call { callee := .value fo, args := args.toArray, argTypes := ats }, ty, pos, af, g⟩ σ true)
    (hf : ev σ fo = some (.func (.func f) #[] cs.toArray)) (hv : evs σ args = some vs) (hk : Fn P f (vs ++ cs) w (fun v' w1 => v' = v ∧ w1 = w))
    (h : WS P n ops w Qa rest ((d, v) :: σ)) : WS P n ops w Qa (⟨some d, .call { callee := .value fo, args := args.toArray, argTypes := ats }, ty, pos, af, g⟩ :: rest) σ := fun a ha => by
  unfold wpStill
  rw [if_pos (hw n a ha)]
  unfold Oper.still
  rw [exec_call hc ha hf hv]
  refine ⟨rfl, v, Calls.mono hk fun e w'' r => ?_, h _ (ha.put hn v)⟩
  cases e with
  | returned u => exact ⟨by rw [r.1], r.2⟩
  | panicked _ => exact r.elim
  | outgrown => exact r.elim

section
variable {S : List Nat} {w0 : World} {L : List (Nat × Obj)} {d : Option Nat} {ty : TypeId} {pos : String} {af : Array Edge} {g : Option (Nat × Bool)} {x : Operand} {t : TypeId}
theorem Ex.loadHp {b off : Nat} {v : Value} {cs : Array Value} {e : TypeId} {fr : Nat × Nat} (ht : Flat P t) (hx : ev σ x = some (vptr b off)) (hH : Hp S w0 w ((b, .cells cs e fr) :: L)) (hc : cs[off]? = some v) : Ex P n ⟨d, .load t x, ty, pos, af, g⟩ σ w v w :=
  Ex.load ht hx ((cell_of_row w b off cs e fr (hH.at 0 rfl)).trans hc)
theorem Ex.loadHp2 {b : Nat} {u v : Value} {e : TypeId} {fr : Nat × Nat} {z : Value} {by' : Nat} {fs : Array Field} (ht : P.underlying t = some (.struct fs)) (hz : Ty P t z 2 by') (hx : ev σ x = some (vptr b 0)) (hH : Hp S w0 w ((b, .cells #[u, v] e fr) :: L)) : Ex P n ⟨d, .load t x, ty, pos, af, g⟩ σ w (.agg #[u, v]) w := fun a ha => by
  obtain ⟨i, h1, h2, h3, h4⟩ := hz
  have hb := hH.at 0 rfl
  have c0 : w.cell? ⟨b, 0, none⟩ = some u := by rw [cell_of_row w b 0 _ e fr hb]; rfl
  have c1 : w.cell? ⟨b, 1, none⟩ = some v := by rw [cell_of_row w b 1 _ e fr hb]; rfl
  have hl : (loadCells ⟨b, 0, none⟩ 2).run P w = .ok #[u, v] w := by
    have := run_loadCells_list (P := P) (w := w) ⟨b, 0, none⟩ [u, v] (fun j y hy => by
      rw [Addr.add_lit]
      match j, hy with
      | 0, hy => simp at hy; subst hy; exact c0
      | 1, hy => simp at hy; subst hy; exact c1
      | j + 2, hy => simp at hy)
    exact this
  simp [execOp, ha.evl hx, Instr.loadAt, Instr.sureAddr, loadVar, isAgg, run_underlying ht, sizeOf, typeInfo, h1, h3, hl]
end
end
end Go.Proofs.Ytmlkabddhdkpaaa

/- Regions that draw their order and write or make memory: an order of one's own, in which operations that any world of a class answers alike are taken first, and the others are forced. -/
namespace Go.Proofs.Ytmlkabddhdkpaaa
set_option maxRecDepth 100000
set_option linter.unusedSimpArgs false
set_option linter.unusedVariables false
open Go Go.RowKit

section
variable {P : Program} {ops : Array Oper} {C : World → Prop}

/-- no way out but the normal one -/
abbrev NoExit : Exit → Act → World → Prop := fun _ _ _ => False

def opF (P : Program) (ops : Array Oper) (i : Nat) (K : Act → World → Prop) (a : Act) (w : World) : Prop :=
  match ops[i]? with
  | none => K a w
  | some o => if Region.wanted o (yielded ops a.tmps) then o.wp P a w K NoExit else K (a.put o.dst undef) w

theorem upon_mono {o : Oper} {a : Act} {K K' : Act → World → Prop} {Q Q' : Exit → Act → World → Prop} (h : ∀ a w, K a w → K' a w) (hq : ∀ e a w, Q e a w → Q' e a w) (r : Result Next) (hr : o.upon P a K Q r) : o.upon P a K' Q' r := by
  cases r with
  | ok x w =>
    cases x <;> first
      | exact h _ _ hr
      | exact Calls.mono hr fun e w' q => by
          cases e with
          | returned v => exact h _ _ q
          | panicked c => exact hq _ _ _ q
          | outgrown => obtain ⟨a', w', q⟩ := q; exact ⟨a', w', hq _ _ _ q⟩
      | exact Rows.mono hr fun v w' q => h _ _ q
      | exact hr.elim
  | halt x w => cases x <;> first | exact hq _ _ _ hr | exact hr.elim

theorem opF_mono {i : Nat} {a : Act} {w : World} {K K' : Act → World → Prop} (h : ∀ a w, K a w → K' a w) (hr : opF P ops i K a w) : opF P ops i K' a w := by
  unfold opF at *
  split
  · rename_i ho; simp only [ho] at hr; exact h _ _ hr
  · rename_i o ho
    simp only [ho] at hr
    split
    · rename_i hw; simp only [hw, if_true] at hr; exact upon_mono h (fun _ _ _ q => q) _ hr
    · rename_i hw; simp only [hw] at hr; exact h _ _ hr

theorem wpOp_of_opF {Q : Exit → Act → World → Prop} {i : Nat} {a : Act} {w : World} {K : Act → World → Prop} (hr : opF P ops i K a w) : wpOp P ops Q i K a w := by
  unfold opF at hr
  unfold wpOp
  split
  · rename_i ho; simp only [ho] at hr; exact hr
  · rename_i o ho
    simp only [ho] at hr
    split
    · rename_i hw; simp only [hw, if_true] at hr; exact .inl (upon_mono (fun _ _ h => h) (fun _ _ _ q => q.elim) _ hr)
    · rename_i hw; simp only [hw] at hr; exact hr

/-- whatever order is picked from here on, every world in the class -/
def T (P : Program) (ops : Array Oper) (C : World → Prop) (K : Act → World → Prop) : Nat → Array Bool → Act → World → Prop
  | 0, listed, a, w => C w ∧ Region.ready .any ops listed = [] ∧ K a w
  | f + 1, listed, a, w => C w ∧ Region.ready .any ops listed ≠ [] ∧ ∀ i ∈ Region.ready .any ops listed, opF P ops i (T P ops C K f (listed.setIfInBounds i true)) a w

theorem T.cls {K : Act → World → Prop} {f : Nat} {listed : Array Bool} {a : Act} {w : World} (h : T P ops C K f listed a w) : C w := by cases f <;> exact h.1

theorem wpAny_of_T {K : Act → World → Prop} {Q : Exit → Act → World → Prop} (hQ : ∀ a w, C w → K a w → Q .normal a w) : ∀ (f : Nat) (listed : Array Bool) (a : Act) (w : World), T P ops C K f listed a w → wpAny P .any ops Q f listed a w
  | 0, _, _, _, h => ⟨h.2.1, hQ _ _ h.1 h.2.2⟩
  | f + 1, _, _, _, h => ⟨fun h0 => absurd h0 h.2.1, fun i hi => wpOp_of_opF (opF_mono (fun a' w' => wpAny_of_T hQ f _ a' w') (h.2.2 i hi))⟩

/-- in every world of the class 'o' leaves 'v', and the world as it is -/
def Yv (P : Program) (ops : Array Oper) (C : World → Prop) (o : Oper) (v : Value) (a : Act) : Prop :=
  (Region.wanted o (yielded ops a.tmps) = true ∧ ∀ w, C w → o.quietAt P a (· = w) w v) ∨ (Region.wanted o (yielded ops a.tmps) = false ∧ v = undef)

theorem Yv.of_same {o : Oper} {v : Value} {a a' : Act} (hy : Yv P ops C o v a) (he : execOp a'.eval o = execOp a.eval o) (hw : Region.wanted o (yielded ops a'.tmps) = Region.wanted o (yielded ops a.tmps)) : Yv P ops C o v a' := by
  unfold Yv Oper.quietAt at *
  rw [he, hw]
  exact hy

theorem Yv.op {i : Nat} {o : Oper} {v : Value} {a : Act} {w : World} {K : Act → World → Prop} (hi : ops[i]? = some o) (hy : Yv P ops C o v a) (hC : C w) (h : K (a.put o.dst v) w) : opF P ops i K a w := by
  unfold opF
  simp only [hi]
  rcases hy with ⟨hw, hv⟩ | ⟨hw, rfl⟩
  · simp only [hw, if_true]
    have h3 := hv w hC
    unfold Oper.quietAt at h3
    unfold Oper.wp
    generalize (execOp a.eval o).run P w = r at *
    cases r with
    | ok n w' =>
      cases n <;> simp only [Oper.quietUpon] at h3 <;> simp only [Oper.upon]
      case value u => obtain ⟨e1, e2⟩ := h3; rw [e1, e2]; exact h
      case skip => obtain ⟨e1, e2⟩ := h3; rw [e1, ← e2]; exact h
      case enter f args =>
        obtain ⟨e1, hc⟩ := h3
        rw [e1]
        exact hc.mono fun e w'' ⟨he, hw''⟩ => by subst he; rw [hw'']; exact h
    | halt x w' => simp only [Oper.quietUpon] at h3
  · simp only [hw, Bool.false_eq_true, if_false]; exact h

/-- an operation apart from 'oi': whether 'oi''s value is there already makes no difference -/
theorem opF_put {j : Nat} {oi oj : Oper} {v : Value} (hj : ops[j]? = some oj) (hap : oi.apart ops oj = true) (hsi : ∀ cs b, oi.op ≠ .select cs b) (hsj : ∀ cs b, oj.op ≠ .select cs b) {K : Act → World → Prop} {a : Act} {w : World}
    (hy : Yv P ops C oi v a) (h : opF P ops j K (a.put oi.dst v) w) : opF P ops j (fun a' w' => Yv P ops C oi v a' ∧ K (a'.put oi.dst v) w') a w := by
  obtain ⟨h1, h2, h3⟩ := Oper.apart_spec hap
  have keep : ∀ u, Yv P ops C oi v (a.put oj.dst u) := fun u => hy.of_same (execOp_put oi hsi a oj.dst u h3) (wanted_put oi a oj.dst u h3)
  unfold opF at *
  simp only [hj] at *
  rw [wanted_put oj a oi.dst v h1] at h
  split
  · rename_i hw
    simp only [hw, if_true] at h
    unfold Oper.wp at *
    rw [execOp_put oj hsj a oi.dst v h1] at h
    generalize (execOp a.eval oj).run P w = r at *
    have hcomm : ∀ u, (a.put oi.dst v).put oj.dst u = (a.put oj.dst u).put oi.dst v := fun u => Act.put_comm a v u h2
    cases r with
    | ok x w' =>
      cases x <;> simp only [Oper.upon] at h ⊢
      case value u => exact ⟨keep u, by rw [← hcomm]; exact h⟩
      case skip => exact ⟨keep _, by rw [← hcomm]; exact h⟩
      case defer d =>
        refine ⟨?_, ?_⟩
        · have := keep undef
          refine this.of_same ?_ ?_ <;> cases oj.dst <;> rfl
        · have e : (({ a.put oi.dst v with defers := d :: (a.put oi.dst v).defers } : Act).put oj.dst undef) = ((({ a with defers := d :: a.defers } : Act).put oj.dst undef).put oi.dst v) := by
            cases hd : oi.dst with
            | none => rfl
            | some x =>
              cases hd' : oj.dst with
              | none => rfl
              | some y =>
                simp only [Act.put]
                rw [Array.setIfInBounds_comm]
                intro e
                exact h2 x hd (by rw [hd', e])
          rw [← e]; exact h
      case enter f args =>
        exact h.mono fun e w'' q => by
          cases e with
          | returned u => exact ⟨keep u, by rw [← hcomm]; exact q⟩
          | panicked c => exact q
          | outgrown => exact q
      case row row args => exact h.mono fun u w'' q => ⟨keep u, by rw [← hcomm]; exact q⟩
      all_goals exact h
    | halt x w' => cases x <;> exact h.elim
  · rename_i hw
    simp only [hw] at h
    exact ⟨keep _, by rw [← Act.put_comm a v undef h2]; exact h⟩

theorem T_first {K : Act → World → Prop} {i : Nat} {oi : Oper} {v : Value} (hi : ops[i]? = some oi) (hsel : ∀ (j : Nat) (o : Oper) cs b, ops[j]? = some o → o.op ≠ .select cs b) :
    ∀ (f : Nat) (listed : Array Bool) (a : Act) (w : World),
      (∀ j oj, ops[j]? = some oj → j ≠ i → listed.getD j true = false → (∀ e ∈ oj.after, Region.binds .any e = true → e.on ≠ i) → oi.apart ops oj = true) →
      i ∈ Region.ready .any ops listed → Yv P ops C oi v a → C w → T P ops C K f (listed.setIfInBounds i true) (a.put oi.dst v) w → T P ops C K (f + 1) listed a w := by
  intro f
  induction f with
  | zero =>
    intro listed a w _ hr hy hC H
    refine ⟨hC, fun h => (by rw [h] at hr; cases hr), fun j hj => ?_⟩
    by_cases hji : j = i
    · subst hji; exact hy.op hi hC H
    · have := ready_mono hj hji
      rw [H.2.1] at this
      cases this
  | succ f ih =>
    intro listed a w hfree hr hy hC H
    refine ⟨hC, fun h => (by rw [h] at hr; cases hr), fun j hj => ?_⟩
    by_cases hji : j = i
    · subst hji; exact hy.op hi hC H
    · have h1 := H.2.2 j (ready_mono hj hji)
      obtain ⟨hjun, oj, hoj, hall⟩ := mem_ready.1 hj
      have hnot : ∀ e ∈ oj.after, Region.binds .any e = true → e.on ≠ i := fun e he hb heq => by
        have h1 := hall e he hb
        have h0 := (mem_ready.1 hr).1
        rw [heq] at h1
        rcases Nat.lt_or_ge i listed.size with h' | h'
        · simp [h'] at h0 h1; rw [h0] at h1; cases h1
        · simp [Array.getElem?_eq_none h'] at h1
      have h2 := opF_put hoj (hfree j oj hoj hji hjun hnot) (fun cs b => hsel i oi cs b hi) (fun cs b => hsel j oj cs b hoj) hy h1
      have hfree' : ∀ k ok, ops[k]? = some ok → k ≠ i → (listed.setIfInBounds j true).getD k true = false →
          (∀ e ∈ ok.after, Region.binds .any e = true → e.on ≠ i) → oi.apart ops ok = true := fun k ok hk hki hun hno => by
        refine hfree k ok hk hki ?_ hno
        by_cases hjk : j = k
        · subst hjk; exact hjun
        · rw [getD_set_ne true hjk] at hun; exact hun
      refine opF_mono (fun a' w' h3 => ?_) h2
      obtain ⟨h4, h5⟩ := h3
      refine ih (listed.setIfInBounds j true) a' w' hfree' (ready_mono hr (Ne.symm hji)) h4 h5.cls ?_
      rw [Array.setIfInBounds_comm _ _ hji]
      exact h5

/-- the plan: each operation by its number, and whether it is taken first -/
def planB (ops : Array Oper) : List (Nat × Bool) → Array Bool → Bool
  | [], listed => (Region.ready .any ops listed).isEmpty
  | (i, true) :: r, listed => (Region.ready .any ops listed).contains i && Region.free .any ops listed i && planB ops r (listed.setIfInBounds i true)
  | (i, false) :: r, listed => decide (Region.ready .any ops listed = [i]) && planB ops r (listed.setIfInBounds i true)

def wpPlan (P : Program) (ops : Array Oper) (C : World → Prop) (K : Act → World → Prop) : List (Nat × Bool) → Act → World → Prop
  | [], a, w => K a w
  | (i, true) :: r, a, w => ∃ o v, ops[i]? = some o ∧ Yv P ops C o v a ∧ wpPlan P ops C K r (a.put o.dst v) w
  | (i, false) :: r, a, w => opF P ops i (fun a' w' => C w' ∧ wpPlan P ops C K r a' w') a w

theorem T_of_plan {K : Act → World → Prop} (hsel : Region.noSelect ops = true) : ∀ (p : List (Nat × Bool)) (listed : Array Bool) (a : Act) (w : World), planB ops p listed = true → C w → wpPlan P ops C K p a w → T P ops C K p.length listed a w
  | [], listed, a, w, hB, hC, h => ⟨hC, by simpa [planB] using hB, h⟩
  | (i, true) :: r, listed, a, w, hB, hC, h => by
    obtain ⟨o, v, ho, hy, h'⟩ := h
    simp only [planB, Bool.and_eq_true] at hB
    exact T_first ho (Region.noSelect_spec hsel) r.length listed a w (Region.free_spec ho hB.1.2) (by simpa using hB.1.1) hy hC (T_of_plan hsel r _ _ _ hB.2 hC h')
  | (i, false) :: r, listed, a, w, hB, hC, h => by
    simp only [planB, Bool.and_eq_true, decide_eq_true_eq] at hB
    refine ⟨hC, by rw [hB.1]; simp, fun j hj => ?_⟩
    rw [hB.1] at hj
    obtain rfl : j = i := by simpa using hj
    exact opF_mono (fun a' w' h' => T_of_plan hsel r _ _ _ hB.2 h'.1 h'.2) h
end

section
variable {P : Program} {n : Nat} {Q : Exit → Act → World → Prop} {σ : Env} {w : World} {ops : Array Oper} {C : World → Prop} {K : Act → World → Prop} {r : List (Nat × Bool)}

def WPl (P : Program) (n : Nat) (ops : Array Oper) (C : World → Prop) (K : Act → World → Prop) (p : List (Nat × Bool)) (σ : Env) (w : World) : Prop := ∀ a, Fits n σ a → wpPlan P ops C K p a w

theorem WC.plan {id : Nat} {l : List Oper} (C : World → Prop) (p : List (Nat × Bool)) (hm : P.follows .mixedOrders = true) (hB : (Region.noSelect l.toArray && decide (p.length = l.length) && planB l.toArray p (Array.replicate l.length false)) = true) (hC : C w.drew)
    (h : C w.drew → WPl P n l.toArray C (fun a w' => C w' → Q .normal a w') p σ w.drew) : WC P n (.region id l.toArray true) Q σ w := fun a ha => by
  simp only [Bool.and_eq_true, decide_eq_true_eq] at hB
  refine wp_region_any hm ?_
  have := wpAny_of_T (Q := Q) (fun a w hC h => h hC) _ _ _ _ (T_of_plan hB.1.1 p _ a w.drew hB.2 hC (h hC a ha))
  rw [hB.1.2] at this
  simpa using this

theorem WPl.nil (h : C w → WN n (Q .normal) σ w) : WPl P n ops C (fun a w' => C w' → Q .normal a w') [] σ w := fun a ha hC => h hC a ha
theorem WPl.q {i d : Nat} {o : Oper} {v : Value} (ho : ops[i]? = some o) (hd : o.dst = some d) (hn : Nat.blt d n = true) (hw : Wt ops o σ true) (he : ∀ w', C w' → Ex P n o σ w' v w') (h : WPl P n ops C K r ((d, v) :: σ) w) : WPl P n ops C K ((i, true) :: r) σ w := fun a ha =>
  ⟨o, v, ho, .inl ⟨hw n a ha, fun w' hw' => by unfold Oper.quietAt; rw [he w' hw' a ha]; exact ⟨rfl, rfl⟩⟩, by rw [hd]; exact h _ (ha.put hn v)⟩
theorem WPl.pass {i d : Nat} {o : Oper} (ho : ops[i]? = some o) (hd : o.dst = some d) (hn : Nat.blt d n = true) (hw : Wt ops o σ false) (h : WPl P n ops C K r ((d, undef) :: σ) w) : WPl P n ops C K ((i, true) :: r) σ w := fun a ha =>
  ⟨o, undef, ho, .inr ⟨hw n a ha, rfl⟩, by rw [hd]; exact h _ (ha.put hn undef)⟩
theorem WPl.qcall {i f : Nat} {fo : Operand} {args : List Operand} {ats : Array TypeId} {vs cs : List Value} {d : Nat} {ty : TypeId} {pos : String} {af : Array Edge} {g : Option (Nat × Bool)} {v : Value}
    (ho : ops[i]? = some ⟨some d, .call { callee := .value fo, args := args.toArray, argTypes := ats }, ty, pos, af, g⟩) (hc : Callable P f) (hn : Nat.blt d n = true) (hw : Wt ops ⟨some d, .call { callee := .value fo, args := args.toArray, argTypes := ats }, ty, pos, af, g⟩ σ true)
    (hf : ev σ fo = some (.func (.func f) #[] cs.toArray)) (hv : evs σ args = some vs) (hk : ∀ w', C w' → Fn P f (vs ++ cs) w' (fun v' w1 => v' = v ∧ w1 = w'))
    (h : WPl P n ops C K r ((d, v) :: σ) w) : WPl P n ops C K ((i, true) :: r) σ w := fun a ha =>
  ⟨_, v, ho, .inl ⟨hw n a ha, fun w' hw' => by
    unfold Oper.quietAt
    rw [exec_call hc ha hf hv]
    refine ⟨rfl, Calls.mono (hk w' hw') fun e w'' r => ?_⟩
    cases e with
    | returned u => exact ⟨by rw [r.1], r.2⟩
    | panicked _ => exact r.elim
    | outgrown => exact r.elim⟩, h _ (ha.put hn v)⟩
theorem Ex.loadK {d : Option Nat} {ty : TypeId} {pos : String} {af : Array Edge} {g : Option (Nat × Bool)} {x : Operand} {t : TypeId} {b off : Nat} {v : Value} {cs : Array Value} {e : TypeId} {fr : Nat × Nat} {T : List Nat} {w w' : World} (ht : Flat P t) (hx : ev σ x = some (vptr b off)) (hb : w.heap[b]? = some (.cells cs e fr)) (hk : Keep T w w') (hn : b ∉ T) (hc : cs[off]? = some v) : Ex P n ⟨d, .load t x, ty, pos, af, g⟩ σ w' v w' :=
  Ex.load ht hx ((cell_of_row w' b off cs e fr (hk.heap hb hn)).trans hc)
theorem Hp.ro1 {α : Type} {r : Rep α} {w0 w w' : World} {L : List (Nat × Obj)} {q : Nat × Obj} {a : Option Addr} {l : List α} (h : Hp [] w0 w L) (j : Nat) (hj : L[j]? = some q) (hC : Keep [q.1] w w') (hg : Sl r w0 a l) : Sl r w' a l := by
  have hq : w0.heap.size ≤ q.1 := (h.own q (List.mem_of_getElem? hj)).resolve_right (by simp)
  have h1 := hg.kept h.keep
  refine ⟨hg.1, ?_⟩
  rcases hg.2 with h2 | ⟨b, off, e, hc⟩
  · exact .inl h2
  · refine .inr ⟨b, off, e, fun j u hu => hC.cell (h.keep.cell (hc j u hu) (by simp)) ?_⟩
    have := World.block_lt_of_cell? w0 _ (hc j u hu)
    simp only [List.mem_singleton]
    intro e
    simp only [e] at this
    omega
/-- an operation that is forced: by its own step lemma -/
theorem WPl.f {i : Nat} {o : Oper} (ho : ops[i]? = some o) (h : WL P n ops (Exit.then (fun a' w' => C w' ∧ wpPlan P ops C K r a' w') NoExit) [o] σ w) : WPl P n ops C K ((i, false) :: r) σ w := fun a ha => by
  have := h a ha
  unfold wpPlan opF
  simp only [ho]
  unfold wpList at this
  split
  · rename_i hw
    rw [if_pos hw] at this
    rcases this with h1 | ⟨_, a', w', h2⟩
    · exact h1
    · exact h2.elim
  · rename_i hw
    rw [if_neg hw] at this
    exact this
theorem WPl.b (hC : C w) (h : WPl P n ops C K r σ w) : WL P n ops (Exit.then (fun a' w' => C w' ∧ wpPlan P ops C K r a' w') NoExit) [] σ w := fun a ha => ⟨hC, h a ha⟩
end
end Go.Proofs.Ytmlkabddhdkpaaa

/- Structs: fields, literals, results that lie in memory; fresh rows. -/
namespace Go.Proofs.Ytmlkabddhdkpaaa
set_option maxRecDepth 100000
set_option linter.unusedSimpArgs false
set_option linter.unusedVariables false
open Go Go.RowKit

/-- field i of struct s lies at off, and is one cell -/
def Fd (P : Program) (s : TypeId) (i off : Nat) : Prop := ∃ fs f, P.underlying s = some (.struct fs) ∧ fs[i]? = some f ∧ f.offset = off ∧ (∃ inf, P.info? f.type = some inf ∧ inf.size ≠ 0) ∧ Flat P f.type
/-- struct t has its fields so -/
def Bd (P : Program) (t : TypeId) (z : Array Value) (pl : Array (Nat × Nat)) : Prop := ∃ fs inf zv, P.underlying t = some (.struct fs) ∧ P.info? t = some inf ∧ inf.zero = some zv ∧ zv.cells = z ∧ ∀ w, (fs.mapM fun f => (do pure (f.offset, ← sizeOf f.type) : Sem (Nat × Nat))).run P w = .ok pl w

section
variable {P : Program} {n : Nat} {Q : Exit → Act → World → Prop} {σ : Env} {w w0 : World} {S : List Nat} {L : List (Nat × Obj)}
variable {d : Option Nat} {ty : TypeId} {pos : String} {af : Array Edge} {g : Option (Nat × Bool)} {x y : Operand} {t e : TypeId}

theorem Ex.fieldAddr {i off b o : Nat} (hf : Fd P t i off) (hx : ev σ x = some (vptr b o)) : Ex P n ⟨d, .fieldAddr t x i, ty, pos, af, g⟩ σ w (vptr b (o + off)) w := fun a ha => by
  obtain ⟨fs, f, h1, h2, h3, ⟨inf, h4, h5⟩, _⟩ := hf
  simp [execOp, ha.evl hx, Instr.fieldAt, run_underlying h1, h2, Instr.sureAddr, fieldPlace, sizeOf, typeInfo, h4, h5, Addr.add_lit, h3]
theorem Ex.field {i off : Nat} {cs : Array Value} {v : Value} (hf : Fd P t i off) (hx : ev σ x = some (.agg cs)) (hv : cs[off]? = some v) : Ex P n ⟨d, .field t x i, ty, pos, af, g⟩ σ w v w := fun a ha => by
  obtain ⟨fs, f, h1, h2, h3, _, h6⟩ := hf
  simp [execOp, ha.evl hx, Instr.field, run_underlying h1, h2, asAgg, part, run_isAgg_flat h6, h3, hv]
theorem Ex.build {z cs : Array Value} {pl : Array (Nat × Nat)} {parts : List (Nat × Operand)} {pv : List (Nat × Value)} (hb : Bd P t z pl) (hp : parts.map (·.1) = pv.map (·.1)) (hv : evs σ (parts.map (·.2)) = some (pv.map (·.2))) (hf : Instr.fill (pl[·]?) z pv = some cs) :
    Ex P n ⟨d, .build t parts.toArray, ty, pos, af, g⟩ σ w (.agg cs) w := fun a ha => by
  obtain ⟨fs, inf, zv, h1, h2, h3, h4, h5⟩ := hb
  have hpv : parts.map (fun p => (p.1, a.eval p.2)) = pv := by
    have h5 := ha.evsl hv
    rw [List.map_map] at h5
    have h6 : (parts.map (fun p => (p.1, a.eval p.2))).map (·.1) = pv.map (·.1) := by rw [List.map_map, ← hp]; rfl
    have h7 : (parts.map (fun p => (p.1, a.eval p.2))).map (·.2) = pv.map (·.2) := by rw [List.map_map, ← h5]; rfl
    have key : ∀ (l m : List (Nat × Value)), l.map (·.1) = m.map (·.1) → l.map (·.2) = m.map (·.2) → l = m := by
      intro l
      induction l with
      | nil => intro m h _; cases m with
        | nil => rfl
        | cons _ _ => simp at h
      | cons p l ih => intro m ha hb; cases m with
        | nil => simp at ha
        | cons q m =>
          simp only [List.map_cons, List.cons.injEq] at ha hb
          rw [ih m ha.2 hb.2, show p = q from Prod.ext ha.1 hb.1]
    exact key _ _ h6 h7
  have h6 : ∀ w', (Instr.build t (parts.map (fun p => (p.1, a.eval p.2))).toArray).run P w' = .ok (.agg cs) w' := fun w' => by
    have h5' := h5 w'
    simp only [Instr.build, zeroValue, typeInfo, Sem.run_bind, run_program, Result.andThen_ok, h2, h3, Sem.run_pure, run_underlying h1, h4]
    rw [h5']
    simp [hpv, hf]
  have h7 : (parts.toArray.map fun (p : Nat × Operand) => (p.1, a.eval p.2)) = (parts.map (fun p => (p.1, a.eval p.2))).toArray := by simp
  simp only [execOp]
  rw [h7]
  simp [h6]

theorem fill_oneP (pl : Nat → Option (Nat × Nat)) (m : Nat) (hpl : ∀ i, i < m → pl i = some (i, 1)) : ∀ (vs pre zs : List Value), vs.all Value.oneCell' = true → vs.length = zs.length → pre.length + vs.length = m →
    Instr.fill pl (pre ++ zs).toArray ((List.range' pre.length vs.length).zip vs) = some (pre ++ vs).toArray
  | [], pre, zs, _, hl, _ => by
    have : zs = [] := List.eq_nil_of_length_eq_zero hl.symm
    simp [Instr.fill, this]
  | v :: vs, pre, zs, h, hl, hm => by
    simp only [List.all_cons, Bool.and_eq_true] at h
    have hc : v.cells = #[v] := by cases v <;> first | rfl | (simp [Value.oneCell'] at h)
    cases zs with
    | nil => simp at hl
    | cons z zs =>
      simp only [List.length_cons, Nat.add_right_cancel_iff] at hl hm
      have ih := fill_oneP pl m hpl vs (pre ++ [v]) zs h.2 hl (by simp; omega)
      simp only [List.length_append, List.length_singleton] at ih
      simp only [List.length_cons, List.range'_succ, List.zip_cons_cons]
      rw [Instr.fill, hpl pre.length (by omega)]
      simp only [hc, List.size_toArray, List.length_singleton, ne_eq, not_true_eq_false, decide_false, Bool.false_or]
      simpa using ih
/-- a struct literal with all its fields, each of one cell -/
theorem Ex.buildS {z : Array Value} {pl : Array (Nat × Nat)} {parts : List (Nat × Operand)} {vs : List Value} (hb : Bd P t z pl) (hv : evs σ (parts.map (·.2)) = some vs) (hpl : pl = ((List.range vs.length).map fun i => (i, 1)).toArray) (hz : z.size = vs.length) (hp : parts.map (·.1) = List.range' 0 vs.length) (h1 : vs.all Value.oneCell' = true) :
    Ex P n ⟨d, .build t parts.toArray, ty, pos, af, g⟩ σ w (.agg vs.toArray) w := by
  refine Ex.build (pv := (List.range' 0 vs.length).zip vs) hb ?_ ?_ ?_
  · rw [hp, List.map_fst_zip]; simp
  · rw [hv, List.map_snd_zip]; simp
  · subst hpl
    have := fill_oneP (fun i => ((List.range vs.length).map fun i => (i, 1)).toArray[i]?) vs.length (fun i hi => by simp [hi]) vs [] z.toList h1 (by simp [hz]) (by simp)
    simpa using this

/-- an element that is a struct -/
theorem Ex.loadSlS {α : Type} {r : Rep α} {b off : Nat} {l : List α} {j : Nat} {u : α} {z : Value} {by' : Nat} {fs : Array Field} (ht : P.underlying t = some (.struct fs)) (hz : Ty P t z r.sz by') (hl : Sl r w (some ⟨b, off, none⟩) l) (hx : ev σ x = some (vptr b (off + j * r.sz))) (hu : l[j]? = some u) (hv : r.val u = .agg (r.cells u).toArray) : Ex P n ⟨d, .load t x, ty, pos, af, g⟩ σ w (r.val u) w := fun a ha => by
  obtain ⟨i, h1, h2, h3, h4⟩ := hz
  have hc : (loadCells ⟨b, off + j * r.sz, none⟩ r.sz).run P w = .ok (r.cells u).toArray w := by
    have := run_loadCells_list (P := P) (w := w) ⟨b, off + j * r.sz, none⟩ (r.cells u) (fun k y hy => by
      rw [Addr.add_lit, Nat.add_assoc]
      exact hl.cell hu hy)
    rwa [r.len] at this
  rw [hv]
  simp [execOp, ha.evl hx, Instr.loadAt, Instr.sureAddr, loadVar, isAgg, run_underlying ht, sizeOf, typeInfo, h1, h3, hc]
/-- make([]T, n) -/
theorem WL.makeSlice {z : Value} {sz by' k : Nat} {Q : Exit → Act → World → Prop} {ops : Array Oper} {rest : List Oper} {d : Nat} (ht : P.underlying t = some (.slice e)) (he : Ty P e z sz by') (hx : ev σ x = some (vint k)) (hy : ev σ y = some (vint k)) (hb : by' * k ≤ 281474976710656) (hk : k ≤ 9223372036854775807)
    (hn : Nat.blt d n = true) (hw : Wt ops ⟨some d, .makeSlice t x y, ty, pos, af, g⟩ σ true) (hH : Hp S w0 w L)
    (h : ∀ b w', w.heap.size ≤ b → Keep [] w w' → Hp S w0 w' ((b, .cells (madeCells z.cells (k * sz)) e (0, 0)) :: L) → WL P n ops Q rest ((d, vsl b k k) :: σ) w') : WL P n ops Q (⟨some d, .makeSlice t x y, ty, pos, af, g⟩ :: rest) σ w := by
  obtain ⟨i, h1, h2, h3, h4⟩ := he
  have hb' : (i.bytes : Int) * (k : Int) ≤ 281474976710656 := by
    have h : ((i.bytes * k : Nat) : Int) ≤ 281474976710656 := by rw [h4]; omega
    rwa [Int.natCast_mul] at h
  have hr := run_make (P := P) w t e i z ht h1 h2 .i64 .i64 k k (by omega) (Int.le_refl _) hb' (by omega)
  simp only [Int.toNat_natCast, h3] at hr
  exact WL.u rfl hn hw (fun a ha => by simp only [execOp, ha.evl hx, ha.evl hy, Sem.run_bind, hr, Result.andThen_ok, Sem.run_pure]) (h _ _ (Nat.le_refl _) (Keep.alloc [] w _) (hH.alloc _))
theorem Own.made {α : Type} (r : Rep α) {z : Value} (x0 : α) (hz : z = r.val x0) (h1 : r.sz = 1) {k : Nat} (hk : k ≤ 9223372036854775807) : Own r (madeCells z.cells (k * 1)) k (List.replicate k x0) := by
  have hc : z.cells = #[r.val x0] := by rw [hz, r.vc, r.v1 h1]
  refine ⟨by rw [size_madeCells, h1], by simp, hk, ?_⟩
  unfold Rw
  rw [hc, Nat.mul_one, toList_madeCells_one, h1, Nat.mul_one, List.length_replicate, List.take_of_length_le (by simp)]
  clear hc hk hz
  induction k with
  | zero => rfl
  | succ k ih => rw [List.replicate_succ, List.replicate_succ, List.flatMap_cons, r.v1 h1, ih]; rfl
theorem Own.idx {α : Type} {r : Rep α} {cur : Array Value} {cap : Nat} {l : List α} (o : Own r cur cap l) (h1 : r.sz = 1) {i : Nat} (hi : i < l.length) : 0 + (i : Int).toNat * 1 < cur.size := by
  have := o.size; have := o.le
  rw [h1] at *
  rw [Int.toNat_natCast]; omega
theorem flat_one {α : Type} {r : Rep α} (h1 : r.sz = 1) (l : List α) : l.flatMap r.cells = l.map r.val := by
  induction l with
  | nil => rfl
  | cons x l ih => rw [List.flatMap_cons, List.map_cons, r.v1 h1, ih]; rfl
theorem Own.set {α : Type} {r : Rep α} {cur : Array Value} {cap : Nat} {l : List α} (o : Own r cur cap l) (h1 : r.sz = 1) (i : Nat) (x : α) : Own r (cur.setIfInBounds (0 + (i : Int).toNat * 1) (r.val x)) cap (l.set i x) := by
  refine ⟨by simp [o.size], by simp [o.le], o.max, ?_⟩
  have h := o.rw
  unfold Rw at *
  rw [flat_one h1] at *
  rw [h1, Nat.mul_one] at *
  rw [Int.toNat_natCast, Nat.zero_add, Nat.mul_one, Array.toList_setIfInBounds, List.length_set, List.take_set, h, List.map_set]
/-- what a row holds at i -/
theorem Own.get {α : Type} {r : Rep α} {cur : Array Value} {cap : Nat} {l : List α} (o : Own r cur cap l) (h1 : r.sz = 1) {i : Nat} {x : α} (hx : l[i]? = some x) : cur[0 + (i : Int).toNat * 1]? = some (r.val x) := by
  have h := o.rw
  unfold Rw at h
  rw [flat_one h1, h1, Nat.mul_one] at h
  have hi : i < l.length := (List.getElem?_eq_some_iff.1 hx).1
  have h2 : (cur.toList.take l.length)[i]? = some (r.val x) := by rw [h]; simp [hx]
  rw [List.getElem?_take_of_lt hi] at h2
  simpa using h2

/-! results that lie in memory: a pair -/
theorem run_loadVar2 {b : Nat} {u v : Value} {e : TypeId} {fr : Nat × Nat} {z : Value} {by' : Nat} {fs : Array Field} (ht : P.underlying t = some (.struct fs)) (hz : Ty P t z 2 by') (hb : w.heap[b]? = some (.cells #[u, v] e fr)) : (loadVar t ⟨b, 0, none⟩).run P w = .ok (.agg #[u, v]) w := by
  obtain ⟨i, h1, h2, h3, h4⟩ := hz
  have c0 : w.cell? ⟨b, 0, none⟩ = some u := by rw [cell_of_row w b 0 _ e fr hb]; rfl
  have c1 : w.cell? ⟨b, 1, none⟩ = some v := by rw [cell_of_row w b 1 _ e fr hb]; rfl
  have hl : (loadCells ⟨b, 0, none⟩ 2).run P w = .ok #[u, v] w := by
    have := run_loadCells_list (P := P) (w := w) ⟨b, 0, none⟩ [u, v] (fun j y hy => by
      rw [Addr.add_lit]
      match j, hy with
      | 0, hy => simp at hy; subst hy; exact c0
      | 1, hy => simp at hy; subst hy; exact c1
      | j + 2, hy => simp at hy)
    exact this
  simp [loadVar, isAgg, run_underlying ht, sizeOf, typeInfo, h1, h3, hl]
theorem WN.cell1 {fn : Func} {R : Value → World → Prop} {q b : Nat} {u v : Value} {z : Value} {by' : Nat} {fs : Array Field} {fr : Nat × Nat} (hr : fn.results = #[.cell q t]) (hv : look σ q = some (vptr b 0)) (ht : P.underlying t = some (.struct fs)) (hz : Ty P t z 2 by') (hH : Hp S w0 w ((b, .cells #[u, v] e fr) :: L)) (h : R (.agg #[u, v]) w) : WN n (bodyPost P fn (Ret R) .ret) σ w :=
  fun a ha => ⟨ha.defers, _, by
    have e1 := ha.val q _ hv
    rw [Array.getD_eq_getD_getElem?] at e1
    simp [results, hr, e1, asAddr, run_loadVar2 ht hz (hH.at 0 rfl)], h⟩
theorem WN.cell2 {fn : Func} {R : Value → World → Prop} {q q' b : Nat} {u v v' : Value} {z : Value} {by' : Nat} {fs : Array Field} {fr : Nat × Nat} (hr : fn.results = #[.cell q t, .tmp q']) (hv : look σ q = some (vptr b 0)) (hv' : look σ q' = some v') (ht : P.underlying t = some (.struct fs)) (hz : Ty P t z 2 by') (hH : Hp S w0 w ((b, .cells #[u, v] e fr) :: L)) (h : R (.tuple #[.agg #[u, v], v']) w) : WN n (bodyPost P fn (Ret R) .ret) σ w :=
  fun a ha => ⟨ha.defers, _, by
    have e1 := ha.val q _ hv
    have e2 := ha.val q' _ hv'
    rw [Array.getD_eq_getD_getElem?] at e1 e2
    simp [results, hr, e1, e2, asAddr, run_loadVar2 ht hz (hH.at 0 rfl)], h⟩
end
end Go.Proofs.Ytmlkabddhdkpaaa
