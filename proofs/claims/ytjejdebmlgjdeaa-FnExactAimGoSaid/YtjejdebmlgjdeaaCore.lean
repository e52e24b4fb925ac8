/- The core of the seat's own program logic: sparse frames and step lemmas over the kit's weakest preconditions. -/
import Derived.WalkKit
import Derived.Deep.QuietTactic
import Derived.Deep.LoopGhost
namespace Go.Proofs.Ytjejdebmlgjdeaa
set_option maxRecDepth 100000
set_option linter.unusedSimpArgs false
set_option linter.unusedVariables false
open Go Go.RowKit

abbrev Env := List (Nat × Value)

def look : Env → Nat → Option Value
  | [], _ => none
  | (k, v) :: r, i => bif Nat.beq k i then some v else look r i

structure Fits (n : Nat) (σ : Env) (a : Act) : Prop where
  defers : a.defers = []
  size : a.tmps.size = n
  val : ∀ i v, look σ i = some v → a.tmps.getD i undef = v

def ev (σ : Env) : Operand → Option Value
  | .tmp t => look σ t
  | .const v => some v
  | .global g => some (.pointer (some ⟨g, 0, none⟩))
  | .func f => some (.func (.func f) #[] #[])

theorem Fits.evl {n : Nat} {σ : Env} {a : Act} {x : Operand} {v : Value} (h : Fits n σ a) (e : ev σ x = some v) : a.eval x = v := by
  cases x with
  | tmp t => exact h.val t v e
  | const c => exact Option.some.inj e
  | global g => exact Option.some.inj e
  | func f => exact Option.some.inj e

theorem look_cons (k : Nat) (u : Value) (σ : Env) (i : Nat) : look ((k, u) :: σ) i = if k = i then some u else look σ i := by
  rw [look]
  cases h : Nat.beq k i
  · rw [if_neg (Nat.ne_of_beq_eq_false h)]; rfl
  · rw [if_pos (Nat.eq_of_beq_eq_true h)]; rfl

theorem Fits.put {n : Nat} {σ : Env} {a : Act} (h : Fits n σ a) {d : Nat} (hd : Nat.blt d n = true) (v : Value) : Fits n ((d, v) :: σ) (a.put (some d) v) := by
  have hd' : d < n := by simpa using hd
  refine ⟨h.defers, by simpa [Act.put] using h.size, fun i u hu => ?_⟩
  rw [look_cons] at hu
  simp only [Act.put]
  by_cases e : d = i
  · subst e
    rw [if_pos rfl] at hu
    simp only [Option.some.injEq] at hu
    subst hu
    simp [h.size, hd']
  · rw [if_neg e] at hu
    have := h.val i u hu
    rw [← this]
    simp [Array.getD_eq_getD_getElem?, Array.getElem?_setIfInBounds, e]

theorem Fits.putNone {n : Nat} {σ : Env} {a : Act} (h : Fits n σ a) (v : Value) : Fits n σ (a.put none v) := h

/-- every slot that τ names reads so in σ -/
def Sub (σ : Env) : Env → Prop
  | [] => True
  | (k, v) :: r => look σ k = some v ∧ Sub σ r

theorem Sub.look {σ : Env} : ∀ {τ : Env}, Sub σ τ → ∀ i v, look τ i = some v → look σ i = some v
  | [], _, i, v, h => by simp [Go.Proofs.Ytjejdebmlgjdeaa.look] at h
  | (k, u) :: r, hs, i, v, h => by
    rw [look_cons] at h
    by_cases e : k = i
    · subst e; rw [if_pos rfl] at h; rw [← h]; exact hs.1
    · rw [if_neg e] at h; exact Sub.look hs.2 i v h

theorem Fits.sub {n : Nat} {σ τ : Env} {a : Act} (h : Fits n σ a) (hs : Sub σ τ) : Fits n τ a := ⟨h.defers, h.size, fun i v e => h.val i v (hs.look i v e)⟩

section
variable {P : Program} {n : Nat}

def WL (P : Program) (n : Nat) (ops : Array Oper) (Q : Exit → Act → World → Prop) (l : List Oper) (σ : Env) (w : World) : Prop := ∀ a, Fits n σ a → wpList P ops Q l a w
def WC (P : Program) (n : Nat) (c : Code) (Q : Exit → Act → World → Prop) (σ : Env) (w : World) : Prop := ∀ a, Fits n σ a → c.wp P Q a w
/-- what follows a region or a loop that ends normally -/
def WN (n : Nat) (K : Act → World → Prop) (σ : Env) (w : World) : Prop := ∀ a, Fits n σ a → K a w

def Ret (S : Value → World → Prop) : Ending → World → Prop
  | .returned v, w => S v w
  | _, _ => False

theorem Ret.mono {S S' : Value → World → Prop} (h : ∀ v w, S v w → S' v w) : ∀ e w, Ret S e w → Ret S' e w
  | .returned v, w, r => h v w r
  | .panicked _, _, r => r
  | .outgrown, _, r => r

/-- THE CONTRACT OF A FUNCTION -/
def Fn (P : Program) (f : FuncId) (args : List Value) (w : World) (S : Value → World → Prop) : Prop := Calls P f args.toArray w (Ret S)

theorem Fn.mono {f : FuncId} {args : List Value} {w : World} {S S' : Value → World → Prop} (h : Fn P f args w S) (hs : ∀ v w, S v w → S' v w) : Fn P f args w S' := Calls.mono h (Ret.mono hs)

def envAt : Nat → List Value → Env
  | _, [] => []
  | k, v :: r => (k, v) :: envAt (k + 1) r

theorem look_envAt : ∀ (l : List Value) (k i : Nat) (v : Value), look (envAt k l) i = some v → k ≤ i ∧ l[i - k]? = some v
  | [], k, i, v, h => by simp [envAt, look] at h
  | u :: r, k, i, v, h => by
    rw [envAt, look_cons] at h
    by_cases e : k = i
    · subst e; rw [if_pos rfl] at h; simpa using h
    · rw [if_neg e] at h
      obtain ⟨h1, h2⟩ := look_envAt r (k + 1) i v h
      refine ⟨by omega, ?_⟩
      obtain ⟨j, rfl⟩ : ∃ j, i = k + 1 + j := ⟨i - (k + 1), by omega⟩
      rw [show k + 1 + j - (k + 1) = j by omega] at h2
      rw [show k + 1 + j - k = j + 1 by omega]
      simpa using h2

theorem Fn.enter {f : FuncId} {fn : Func} {c : Code} {args : List Value} {w : World} {S : Value → World → Prop}
    (hf : P.funcs[f]? = some fn) (hb : fn.body = some c) (hn : fn.ntmps = n) (hz : Nat.ble args.length n = true)
    (h : WC P n c (bodyPost P fn (Ret S)) (envAt 0 args) w) : Fn P f args w S := by
  have hz' : args.length ≤ n := by simpa using hz
  refine calls_of_wp hf hb (h _ ⟨rfl, by simp [hn]; omega, fun i v hv => ?_⟩)
  obtain ⟨_, h2⟩ := look_envAt args 0 i v hv
  simp only [Nat.sub_zero] at h2
  have hi : i < args.length := (List.getElem?_eq_some_iff.1 h2).1
  rw [List.getElem?_eq_getElem hi] at h2
  simp only [Option.some.injEq] at h2
  simp [Array.getD_eq_getD_getElem?, Array.getElem?_append, hi, h2]

/-! code -/
section
variable {Q : Exit → Act → World → Prop} {σ : Env} {w : World}

theorem WC.sub {c : Code} (τ : Env) (hs : Sub σ τ) (h : WC P n c Q τ w) : WC P n c Q σ w := fun a ha => h a (ha.sub hs)
theorem WN.sub {K : Act → World → Prop} (τ : Env) (hs : Sub σ τ) (h : WN n K τ w) : WN n K σ w := fun a ha => h a (ha.sub hs)

theorem WC.seq {x y : Code} (h : WC P n x (Exit.then (y.wp P Q) Q) σ w) : WC P n (.seq x y) Q σ w := fun a ha => wp_seq (h a ha)
theorem WC.block {id : Nat} {c : Code} (h : WC P n c (Exit.inBlock id Q) σ w) : WC P n (.block id c) Q σ w := fun a ha => wp_block (h a ha)
theorem WC.skip (h : WN n (Q .normal) σ w) : WC P n .skip Q σ w := fun a ha => wp_skip (h a ha)
theorem WC.ret (h : WN n (Q .ret) σ w) : WC P n .ret Q σ w := fun a ha => wp_ret (h a ha)
theorem WC.exit {id : Nat} (h : WN n (Q (.exit id)) σ w) : WC P n (.exit id) Q σ w := fun a ha => wp_exit (h a ha)
theorem WC.label {l : Nat} (h : WN n (Q .normal) σ w) : WC P n (.label l) Q σ w := fun a ha => wp_label (h a ha)
theorem WC.cond {c : Operand} {x y : Code} {t : Bool} (hc : ev σ c = some (.bool t)) (ht : t = true → WC P n x Q σ w) (hf : t = false → WC P n y Q σ w) : WC P n (.cond c x y) Q σ w :=
  fun a ha => wp_cond_split (ha.evl hc) (fun e => ht e a ha) (fun e => hf e a ha)
theorem WC.condT {c : Operand} {x y : Code} {t : Bool} (hc : ev σ c = some (.bool t)) (e : t = true) (h : WC P n x Q σ w) : WC P n (.cond c x y) Q σ w :=
  fun a ha => wp_cond_true (e ▸ ha.evl hc) (h a ha)
theorem WC.condF {c : Operand} {x y : Code} {t : Bool} (hc : ev σ c = some (.bool t)) (e : t = false) (h : WC P n y Q σ w) : WC P n (.cond c x y) Q σ w :=
  fun a ha => wp_cond_false (e ▸ ha.evl hc) (h a ha)

theorem WC.region {id : Nat} {l : List Oper} (h : WL P n l.toArray Q l σ w) : WC P n (.region id l.toArray false) Q σ w := fun a ha => wp_region_lit (h a ha)

/-- behind a region: the code that follows in a sequence -/
theorem WL.next {ops : Array Oper} {y : Code} (h : WC P n y Q σ w) : WL P n ops (Exit.then (y.wp P Q) Q) [] σ w := h
theorem WN.next {y : Code} (h : WC P n y Q σ w) : WN n (Exit.then (y.wp P Q) Q .normal) σ w := h
theorem WL.last {ops : Array Oper} (h : WN n (Q .normal) σ w) : WL P n ops Q [] σ w := h

/-- through the scopes -/
theorem WN.retThen {K : Act → World → Prop} (h : WN n (Q .ret) σ w) : WN n (Exit.then K Q .ret) σ w := h
theorem WN.exitThen {K : Act → World → Prop} {id : Nat} (h : WN n (Q (.exit id)) σ w) : WN n (Exit.then K Q (.exit id)) σ w := h
theorem WN.retBlock {id : Nat} (h : WN n (Q .ret) σ w) : WN n (Exit.inBlock id Q .ret) σ w := h
theorem WN.normalBlock {id : Nat} (h : WN n (Q .normal) σ w) : WN n (Exit.inBlock id Q .normal) σ w := h
theorem WN.exitHere {id : Nat} (h : WN n (Q .normal) σ w) : WN n (Exit.inBlock id Q (.exit id)) σ w := fun a ha => by
  show if id = id then _ else _
  rw [if_pos rfl]; exact h a ha
theorem WN.exitOther {id id' : Nat} (hne : Nat.beq id' id = false) (h : WN n (Q (.exit id')) σ w) : WN n (Exit.inBlock id Q (.exit id')) σ w := fun a ha => by
  show if id' = id then _ else _
  rw [if_neg (Nat.ne_of_beq_eq_false hne)]; exact h a ha

/-- a loop: the states are numbered by ι -/
theorem WC.loop {c : Code} {ι : Type} (S : ι → Env) (I : ι → World → Prop) (μ : ι → Nat) (i0 : ι) (hs : Sub σ (S i0)) (h0 : I i0 w)
    (round : ∀ i w, I i w → ∀ m, μ i = m → WC P n c (Exit.then (fun a' w' => ∃ i', Fits n (S i') a' ∧ I i' w' ∧ μ i' < m) Q) (S i) w) : WC P n (.loop c) Q σ w := fun a ha =>
  wp_loop_ghost (fun N a w => ∃ i, Fits n (S i) a ∧ I i w ∧ μ i = N) (μ i0) ⟨i0, ha.sub hs, h0, rfl⟩ fun N a w ⟨i, hf, hi, hN⟩ =>
    wp_mono (round i w hi (μ i) rfl a hf) fun e a' w' hq => by
      cases e with
      | normal =>
        obtain ⟨i', h1, h2, h3⟩ := hq
        exact ⟨μ i', hN ▸ h3, i', h1, h2, rfl⟩
      | exit id => exact hq
      | goto l => exact hq
      | ret => exact hq
      | panic ch => exact hq
      | outgrown => exact hq
/-- the end of a round -/
theorem WN.round {ι : Type} {S : ι → Env} {I : ι → World → Prop} {μ : ι → Nat} {m : Nat} (i' : ι) (hs : Sub σ (S i')) (h1 : I i' w) (h2 : μ i' < m) :
    WN n (fun a' w' => ∃ i', Fits n (S i') a' ∧ I i' w' ∧ μ i' < m) σ w := fun _ ha => ⟨i', ha.sub hs, h1, h2⟩
/-- a cut: both ways of x come to the states τ i -/
theorem WC.cut {x y : Code} {ι : Type} (S : ι → Env) (I : ι → World → Prop) (h : ∀ i w, I i w → WC P n y Q (S i) w) (hx : WC P n x (Exit.then (fun a' w' => ∃ i', Fits n (S i') a' ∧ I i' w') Q) σ w) :
    WC P n (.seq x y) Q σ w := fun a ha => wp_seq (wp_mono (hx a ha) fun e a' w' hq => by
      cases e with
      | normal =>
        obtain ⟨i, h1, h2⟩ := hq
        exact h i w' h2 a' h1
      | exit id => exact hq
      | goto l => exact hq
      | ret => exact hq
      | panic ch => exact hq
      | outgrown => exact hq)
theorem WN.cut {ι : Type} {S : ι → Env} {I : ι → World → Prop} (i' : ι) (hs : Sub σ (S i')) (h1 : I i' w) : WN n (fun a' w' => ∃ i', Fits n (S i') a' ∧ I i' w') σ w := fun _ ha => ⟨i', ha.sub hs, h1⟩

/-! the end of a body -/
theorem WN.body1 {fn : Func} {S : Value → World → Prop} {t : Nat} {v : Value} (hr : fn.results = #[.tmp t]) (hv : look σ t = some v) (h : S v w) : WN n (bodyPost P fn (Ret S) .ret) σ w :=
  fun a ha => ⟨ha.defers, v, by rw [results_tmp hr, ha.val t v hv], h⟩
theorem WN.body2 {fn : Func} {S : Value → World → Prop} {t u : Nat} {v v' : Value} (hr : fn.results = #[.tmp t, .tmp u]) (hv : look σ t = some v) (hv' : look σ u = some v') (h : S (.tuple #[v, v']) w) : WN n (bodyPost P fn (Ret S) .ret) σ w :=
  fun a ha => ⟨ha.defers, _, by rw [results_tmp2 hr, ha.val t v hv, ha.val u v' hv'], h⟩
theorem WN.body0 {fn : Func} {S : Value → World → Prop} (hr : fn.results = #[]) (h : S (.tuple #[]) w) : WN n (bodyPost P fn (Ret S) .ret) σ w :=
  fun a ha => ⟨ha.defers, _, by rw [results_none hr], h⟩
theorem WN.body0n {fn : Func} {S : Value → World → Prop} (hr : fn.results = #[]) (h : S (.tuple #[]) w) : WN n (bodyPost P fn (Ret S) .normal) σ w :=
  fun a ha => ⟨ha.defers, _, by rw [results_none hr], h⟩
theorem results_tmp3 {fn : Func} {t u s : Tmp} (h : fn.results = #[.tmp t, .tmp u, .tmp s]) (tmps : Array Value) (P : Program) (w : World) :
    (results fn tmps).run P w = .ok (.tuple #[tmps.getD t undef, tmps.getD u undef, tmps.getD s undef]) w := by
  simp [results, h]
theorem WN.body3 {fn : Func} {S : Value → World → Prop} {t u s : Nat} {v v' v'' : Value} (hr : fn.results = #[.tmp t, .tmp u, .tmp s]) (hv : look σ t = some v) (hv' : look σ u = some v') (hv'' : look σ s = some v'') (h : S (.tuple #[v, v', v'']) w) : WN n (bodyPost P fn (Ret S) .ret) σ w :=
  fun a ha => ⟨ha.defers, _, by rw [results_tmp3 hr, ha.val t v hv, ha.val u v' hv', ha.val s v'' hv''], h⟩
end

/-! operations -/
/-- the operation comes up and is wanted (r = true) or is passed over -/
def Wt (ops : Array Oper) (o : Oper) (σ : Env) (r : Bool) : Prop := ∀ n a, Fits n σ a → Region.wanted o (yielded ops a.tmps) = r
theorem Wt.plain {ops : Array Oper} {o : Oper} {σ : Env} (h : o.guard = none) : Wt ops o σ true := fun _ _ _ => by simp [Region.wanted, h]
theorem Fits.yielded {ops : Array Oper} {σ : Env} {a : Act} {j t : Nat} {b : Bool} (ha : Fits n σ a) (h1 : (ops[j]?).bind (·.dst) = some t) (h2 : look σ t = some (.bool b)) : yielded ops a.tmps j = some b := by
  have h3 := ha.val t _ h2
  have h4 : a.tmps[t]? = some (.bool b) := by
    rw [Array.getD_eq_getD_getElem?] at h3
    cases h : a.tmps[t]? with
    | none => rw [h] at h3; simp [undef] at h3
    | some u => rw [h] at h3; simp at h3; rw [h3]
  unfold Go.yielded
  rw [h1, Option.bind_some, h4]
theorem Wt.guard {ops : Array Oper} {o : Oper} {σ : Env} {j t : Nat} {b c r : Bool} (h : o.guard = some (j, b)) (h1 : (ops[j]?).bind (·.dst) = some t) (h2 : look σ t = some (.bool c)) (h3 : (c == b) = r) : Wt ops o σ r := fun _ _ ha => by
  simp only [Region.wanted, h, ha.yielded h1 h2]
  rw [← h3]
  cases c <;> cases b <;> rfl

theorem Wt.guard' {ops : Array Oper} {o : Oper} {σ : Env} {j t : Nat} {b c v r : Bool} (h : o.guard = some (j, b)) (h1 : (ops[j]?).bind (·.dst) = some t) (h2 : look σ t = some (.bool c)) (hc : c = v) (h3 : (v == b) = r) : Wt ops o σ r := Wt.guard h h1 h2 (by rw [hc]; exact h3)

def Ex (P : Program) (n : Nat) (o : Oper) (σ : Env) (w : World) (v : Value) (w' : World) : Prop := ∀ a, Fits n σ a → (execOp a.eval o).run P w = .ok (.value v) w'
def ExU (P : Program) (n : Nat) (o : Oper) (σ : Env) (w : World) (w' : World) : Prop := ∀ a, Fits n σ a → (execOp a.eval o).run P w = .ok .skip w'

section
variable {Q : Exit → Act → World → Prop} {σ : Env} {w : World} {ops : Array Oper} {rest : List Oper} {o : Oper}

theorem WL.step (hw : Wt ops o σ true) (h : ∀ a, Fits n σ a → o.wp P a w (wpList P ops Q rest) Q) : WL P n ops Q (o :: rest) σ w := fun a ha => by
  unfold wpList
  rw [if_pos (hw n a ha)]
  exact .inl (h a ha)
theorem WL.u {d : Nat} {v : Value} {w' : World} (hd : o.dst = some d) (hn : Nat.blt d n = true) (hw : Wt ops o σ true) (he : Ex P n o σ w v w') (h : WL P n ops Q rest ((d, v) :: σ) w') : WL P n ops Q (o :: rest) σ w :=
  WL.step hw fun a ha => by
    unfold Oper.wp
    rw [he a ha, Oper.upon_value, hd]
    exact h _ (ha.put hn v)
theorem WL.un {v : Value} {w' : World} (hd : o.dst = none) (hw : Wt ops o σ true) (he : Ex P n o σ w v w') (h : WL P n ops Q rest σ w') : WL P n ops Q (o :: rest) σ w :=
  WL.step hw fun a ha => by
    unfold Oper.wp
    rw [he a ha, Oper.upon_value, hd]
    exact h _ ha
theorem WL.s {w' : World} (hd : o.dst = none) (hw : Wt ops o σ true) (he : ExU P n o σ w w') (h : WL P n ops Q rest σ w') : WL P n ops Q (o :: rest) σ w :=
  WL.step hw fun a ha => by
    unfold Oper.wp
    rw [he a ha, Oper.upon_skip, hd]
    exact h _ ha
theorem WL.pass {d : Nat} (hd : o.dst = some d) (hn : Nat.blt d n = true) (hw : Wt ops o σ false) (h : WL P n ops Q rest ((d, undef) :: σ) w) : WL P n ops Q (o :: rest) σ w := fun a ha => by
  unfold wpList
  rw [if_neg (by rw [hw n a ha]; simp), hd]
  exact h _ (ha.put hn undef)
theorem WL.passN (hd : o.dst = none) (hw : Wt ops o σ false) (h : WL P n ops Q rest σ w) : WL P n ops Q (o :: rest) σ w := fun a ha => by
  unfold wpList
  rw [if_neg (by rw [hw n a ha]; simp), hd]
  exact h _ ha

/-- the function is one of the program's own, with a body -/
def Callable (P : Program) (f : FuncId) : Prop := ∃ fn, P.funcs[f]? = some fn ∧ (fn.name == "runtime.NumGoroutine") = false ∧ fn.body.isNone = false

def evs (σ : Env) : List Operand → Option (List Value)
  | [] => some []
  | x :: r => match ev σ x, evs σ r with
    | some v, some vs => some (v :: vs)
    | _, _ => none

theorem Fits.evsl {σ : Env} {a : Act} (ha : Fits n σ a) : ∀ {l : List Operand} {vs : List Value}, evs σ l = some vs → l.map a.eval = vs
  | [], vs, h => by simp [Go.Proofs.Ytjejdebmlgjdeaa.evs] at h; simp [← h]
  | x :: r, vs, h => by
    unfold Go.Proofs.Ytjejdebmlgjdeaa.evs at h
    cases h1 : ev σ x with
    | none => simp [h1] at h
    | some v =>
      cases h2 : Go.Proofs.Ytjejdebmlgjdeaa.evs σ r with
      | none => simp [h1, h2] at h
      | some us =>
        simp [h1, h2] at h
        rw [← h, List.map_cons, ha.evl h1, ha.evsl h2]

theorem exec_call {f : FuncId} {fo : Operand} {args : List Operand} {ats : Array TypeId} {vs cs : List Value} {d : Option Nat} {ty : TypeId} {pos : String} {af : Array Edge} {g : Option (Nat × Bool)} {a : Act}
    (hc : Callable P f) (ha : Fits n σ a) (hf : ev σ fo = some (.func (.func f) #[] cs.toArray)) (hv : evs σ args = some vs) :
    (execOp a.eval ⟨d, .call { callee := .value fo, args := args.toArray, argTypes := ats }, ty, pos, af, g⟩).run P w = .ok (.enter f (vs ++ cs).toArray) w := by
  obtain ⟨fn, h1, h2, h3⟩ := hc
  have h4 : (callFunc f (vs ++ cs).toArray).run P w = .ok (.enter f (vs ++ cs).toArray) w := by
    have h2' : fn.name ≠ "runtime.NumGoroutine" := by simpa using h2
    obtain ⟨c, h3'⟩ := Option.ne_none_iff_exists'.mp (show fn.body ≠ none from fun e => by rw [e] at h3; exact absurd h3 (by decide))
    simp [callFunc, h1, h2', h3', Sem.run]
  have h5 := ha.evsl hv
  simp only [execOp, resolve, ha.evl hf, Deferred.ofValue, Sem.run_bind, Sem.run_pure, Result.andThen_ok, invoke]
  simpa [h5] using h4

theorem WL.call {f : FuncId} {fo : Operand} {args : List Operand} {ats : Array TypeId} {vs cs : List Value} {d : Nat} {ty : TypeId} {pos : String} {af : Array Edge} {g : Option (Nat × Bool)} {S : Value → World → Prop}
    (hc : Callable P f) (hn : Nat.blt d n = true) (hw : Wt ops ⟨some d, .call { callee := .value fo, args := args.toArray, argTypes := ats }, ty, pos, af, g⟩ σ true)
    (hf : ev σ fo = some (.func (.func f) #[] cs.toArray)) (hv : evs σ args = some vs) (hk : Fn P f (vs ++ cs) w S)
    (h : ∀ v w', S v w' → WL P n ops Q rest ((d, v) :: σ) w') : WL P n ops Q (⟨some d, .call { callee := .value fo, args := args.toArray, argTypes := ats }, ty, pos, af, g⟩ :: rest) σ w :=
  WL.step hw fun a ha => by
    unfold Oper.wp
    rw [exec_call hc ha hf hv, Oper.upon_enter]
    refine Calls.mono hk fun e w' r => ?_
    cases e with
    | returned v => exact h v w' r _ (ha.put hn v)
    | panicked _ => exact r.elim
    | outgrown => exact r.elim
end
end
end Go.Proofs.Ytjejdebmlgjdeaa
