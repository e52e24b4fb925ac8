/- The reference's search goes on: it computes the plain search. -/
import Derived.Test.YtjejdebmlgjdeaaGoS
namespace Go.Proofs.Ytjejdebmlgjdeaa
set_option maxRecDepth 100000
set_option linter.unusedSimpArgs false
set_option linter.unusedVariables false
open Go Go.RowKit
def foldT (q f : Nat) (h : Grid) (F : List Bool) (s : Nat × Nat) (c : Nat) : Str → Nat → Nat
  | [], b => b
  | x :: xs, b => foldT q f h F s c xs (tryW (goM q f) q h F s c x b)
theorem foldT_snoc (q f : Nat) (h : Grid) (F : List Bool) (s : Nat × Nat) (c : Nat) (x : UInt8) : ∀ (xs : Str) (b : Nat), foldT q f h F s c (xs ++ [x]) b = tryW (goM q f) q h F s c x (foldT q f h F s c xs b)
  | [], b => rfl
  | y :: xs, b => by rw [List.cons_append, foldT, foldT, foldT_snoc q f h F s c x xs]
theorem foldT_le (q f : Nat) (h : Grid) (F : List Bool) (s : Nat × Nat) (c : Nat) : ∀ (xs : Str) (b : Nat), foldT q f h F s c xs b ≤ b
  | [], b => Nat.le_refl _
  | y :: xs, b => by
    rw [foldT]
    refine Nat.le_trans (foldT_le q f h F s c xs _) ?_
    unfold tryW
    exact leaveW_le (goM_le q f) _ _ _ _ _ _
theorem set_same {F : List Bool} {i : Nat} (h : F.getD i false = true) : F.set i true = F := by
  apply List.ext_getElem (by simp)
  intro j h1 h2
  rw [List.getElem_set]
  split
  · next e =>
    subst e
    rw [List.getD_eq_getElem?_getD, List.getElem?_eq_getElem h2, Option.getD_some] at h
    exact h.symm
  · rfl
/-- the letters that are tried -/
def lets (h : Grid) (F : List Bool) (s : Nat × Nat) : Str := if F.getD s.1 false = true then [letter h s.1] else [46, 114, 102]
theorem goM_fold {q f : Nat} {h : Grid} {F : List Bool} {s : Nat × Nat} {c b : Nat} (hG : GridOk h) (hc : s.1 < nR h * nC h) : goM q (f + 1) h F s c b = foldT q f h F s c (lets h F s) b := by
  unfold goM lets
  by_cases hs : F.getD s.1 false = true
  · rw [if_pos hs, if_pos hs, foldT, foldT]
    unfold tryW
    rw [putG_self hG hc, set_same hs]
    unfold cst
    rw [if_pos rfl, Nat.add_zero]
  · rw [if_neg hs, if_neg hs]; rfl
theorem lets_len (h : Grid) (F : List Bool) (s : Nat × Nat) : (lets h F s).length ≤ 3 := by unfold lets; split <;> simp
theorem lets_ok {h : Grid} (hG : GridOk h) {F : List Bool} {s : Nat × Nat} (hc : s.1 < nR h * nC h) : ∀ x ∈ lets h F s, okL x = true := by
  unfold lets
  split
  · intro x hx
    rw [List.mem_singleton.1 hx]; exact letter_ok hG hc
  · decide
/-- what comes of going on from a place -/
def goV (q f : Nat) (h : Grid) (F : List Bool) (s : Nat × Nat) (c b : Nat) : Nat := match afterN h s with
  | .inl e => if e = q then min c b else b
  | .inr s' => goM q f h F s' c b
theorem tryW_goV {q f : Nat} {h : Grid} {F : List Bool} {s : Nat × Nat} {c b : Nat} {x : UInt8} (hb : c + cst h s.1 x < b) : tryW (goM q f) q h F s c x b = goV q f (putG h s.1 x) (F.set s.1 true) s (c + cst h s.1 x) b := by
  unfold tryW leaveW goV
  rw [if_neg (by omega)]
  cases afterN (putG h s.1 x) s with
  | inl e =>
    simp only
    by_cases he : e = q
    · rw [if_pos he, if_pos he]; omega
    · rw [if_neg he, if_neg he]
  | inr s' => rfl
abbrev L9 (h : Grid) (a : Option Addr) (cap : Nat) (aF : Option Addr) (capF lF : Nat) (i k : Int) (d q c b : Nat) : List Value := [.slice a h.length cap, .slice aF lF capF, vint i, vint k, vint d, vint q, vint c, vint b]

theorem sl9GoOut (h : Grid) (a : Option Addr) (cap : Nat) (aF : Option Addr) (capF lF : Nat) (i k : Int) (d q c b e : Nat) (w : World) (hh : Sl rStr w a h) (hG : GridOk h) (hl : leaveI (nR h) (nC h) i k = (e : Int)) (hi : -100 ≤ i ∧ i ≤ 100) (hk : -100 ≤ k ∧ k ≤ 100) : Fn Try.prog 84 [.slice a h.length cap, .slice aF lF capF, vint i, vint k, vint d, vint q, vint c, vint b] w (fun v w1 => v = vint ((if e = q then min c b else b : Nat)) ∧ w1 = w) := by
  refine Fn.enter (n := 120) Try.func84 rfl rfl rfl ?_
  show WC _ _ _ _ [(0, .slice a h.length cap), (1, .slice aF lF capF), (2, vint i), (3, vint k), (4, vint d), (5, vint q), (6, vint c), (7, vint b)] _
  obtain ⟨h1, h2, h3, h4, h5, h6⟩ := id hG
  obtain ⟨b1, off, rfl⟩ := hh.addr (by omega)
  refine WC.seq ?_
  refine WC.region ?_
  refine WL.u rfl rfl (Wt.plain rfl) (Ex.assign rfl) ?_
  refine WL.next ?_
  refine WC.seq ?_
  refine WC.region ?_
  refine WL.u rfl rfl (Wt.plain rfl) (Ex.move rfl) ?_
  refine WL.u rfl rfl (Wt.plain rfl) (Ex.lenSl Try.underlying22 rfl) ?_
  refine WL.u rfl rfl (Wt.plain rfl) (Ex.assign rfl) ?_
  refine WL.next ?_
  refine WC.seq ?_
  refine WC.region ?_
  refine WL.u rfl rfl (Wt.plain rfl) (Ex.move rfl) ?_
  refine WL.u rfl rfl (Wt.plain rfl) (Ex.indexAddr Try.underlying22 ty9 rfl rfl (by omega)) ?_
  refine WL.u rfl rfl (Wt.plain rfl) (Ex.loadSl flat9 hh rfl rfl (getD_get h 0 [] (by omega))) ?_
  refine WL.u rfl rfl (Wt.plain rfl) (Ex.lenStr Try.underlying9 rfl) ?_
  refine WL.u rfl rfl (Wt.plain rfl) (Ex.assign rfl) ?_
  refine WL.next ?_
  refine WC.seq ?_
  refine WC.region ?_
  refine WL.u rfl rfl (Wt.plain rfl) (Ex.move rfl) ?_
  refine WL.u rfl rfl (Wt.plain rfl) (Ex.move rfl) ?_
  refine WL.u rfl rfl (Wt.plain rfl) (Ex.move rfl) ?_
  refine WL.u rfl rfl (Wt.plain rfl) (Ex.move rfl) ?_
  refine WL.call callable114 rfl (Wt.plain rfl) rfl rfl (sl2Leave h.length (h.getD 0 []).length i k _ (by omega) (by omega) hi hk) ?_
  rintro _ _ ⟨hv, hw⟩; obtain rfl := hw.symm; obtain rfl := hv.trans (congrArg (Value.int IntKind.i64) hl)
  refine WL.u rfl rfl (Wt.plain rfl) (Ex.assign rfl) ?_
  refine WL.next ?_
  refine WC.seq ?_
  refine WC.seq ?_
  refine WC.region ?_
  refine WL.u rfl rfl (Wt.plain rfl) (Ex.move rfl) ?_
  refine WL.u rfl rfl (Wt.plain rfl) (Ex.geq rfl rfl) ?_
  refine WL.next ?_
  refine WC.condT rfl (decide_eq_true (by omega)) ?_
  refine WC.seq ?_
  refine WC.seq ?_
  refine WC.region ?_
  refine WL.u rfl rfl (Wt.plain rfl) (Ex.move rfl) ?_
  refine WL.u rfl rfl (Wt.plain rfl) (Ex.move rfl) ?_
  refine WL.u rfl rfl (Wt.plain rfl) (Ex.eql rfl rfl) ?_
  refine WL.next ?_
  refine WC.cond rfl (fun hc2 => ?_) (fun hc2 => ?_)
  · have hc2' := hc2; try simp only [decide_eq_true_eq, decide_eq_false_iff_not, Bool.not_eq_true', Bool.not_eq_false', Bool.not_eq_true, Bool.not_eq_false] at hc2'
    refine WC.seq ?_
    refine WC.region ?_
    refine WL.u rfl rfl (Wt.plain rfl) (Ex.move rfl) ?_
    refine WL.u rfl rfl (Wt.plain rfl) (Ex.move rfl) ?_
    refine WL.u rfl rfl (Wt.plain rfl) (Ex.min rfl rfl) ?_
    refine WL.u rfl rfl (Wt.plain rfl) (Ex.assign rfl) ?_
    refine WL.next ?_
    refine WC.ret ?_
    refine WN.retThen ?_
    refine WN.retThen ?_
    refine WN.body1 rfl rfl ?_
    exact ⟨by rw [if_pos (show e = q by omega)]; exact congrArg (Value.int IntKind.i64) (show min (c : Int) (b : Int) = ((min c b : Nat) : Int) by omega), rfl⟩
  have hc2' := hc2; try simp only [decide_eq_true_eq, decide_eq_false_iff_not, Bool.not_eq_true', Bool.not_eq_false', Bool.not_eq_true, Bool.not_eq_false] at hc2'
  refine WC.skip ?_
  refine WN.next ?_
  refine WC.seq ?_
  refine WC.region ?_
  refine WL.u rfl rfl (Wt.plain rfl) (Ex.move rfl) ?_
  refine WL.u rfl rfl (Wt.plain rfl) (Ex.assign rfl) ?_
  refine WL.next ?_
  refine WC.ret ?_
  refine WN.retThen ?_
  refine WN.body1 rfl rfl ?_
  exact ⟨by rw [if_neg (show ¬ e = q by omega)], rfl⟩


theorem stepI_bound {i k : Int} (d : Nat) (hi : -50 ≤ i ∧ i ≤ 50) (hk : -50 ≤ k ∧ k ≤ 50) : (-100 ≤ (stepI i k d).1 ∧ (stepI i k d).1 ≤ 100) ∧ -100 ≤ (stepI i k d).2 ∧ (stepI i k d).2 ≤ 100 := by
  unfold stepI
  split
  · exact ⟨⟨by dsimp only; omega, by dsimp only; omega⟩, by dsimp only; omega, by dsimp only; omega⟩
  · split
    · exact ⟨⟨by dsimp only; omega, by dsimp only; omega⟩, by dsimp only; omega, by dsimp only; omega⟩
    · split
      · exact ⟨⟨by dsimp only; omega, by dsimp only; omega⟩, by dsimp only; omega, by dsimp only; omega⟩
      · exact ⟨⟨by dsimp only; omega, by dsimp only; omega⟩, by dsimp only; omega, by dsimp only; omega⟩
theorem leave_in {n m r c : Nat} (hr : r < n) (hc : c < m) : leaveI n m (r : Int) (c : Int) = -1 := by
  unfold leaveI
  rw [if_neg (by omega), if_neg (by omega), if_neg (by omega), if_neg (by omega)]
theorem lets_slice {h : Grid} {F : List Bool} {s : Nat × Nat} (hr : (h.getD (s.1 / nC h) []).length = nC h) (hc : s.1 % nC h < nC h) (hl : lets h F s = [letter h s.1]) :
    vstr (((h.getD (s.1 / nC h) []).drop ((s.1 % nC h : Nat) : Int).toNat).take ((((s.1 % nC h : Nat) : Int) + 1).toNat - ((s.1 % nC h : Nat) : Int).toNat)) = vstr (lets h F s) := by
  rw [hl]
  have e1 : (((s.1 % nC h : Nat) : Int) + 1).toNat - ((s.1 % nC h : Nat) : Int).toNat = 1 := by omega
  rw [e1, Int.toNat_natCast, List.drop_eq_getElem_cons (by rw [hr]; exact hc)]
  have g1 := getD_get (h.getD (s.1 / nC h) []) (s.1 % nC h) 0 (by rw [hr]; exact hc)
  rw [List.getElem?_eq_getElem (by rw [hr]; exact hc)] at g1
  rw [Option.some.inj g1]; rfl
theorem enough_try {p f : Nat} {h : Grid} {F : List Bool} {s : Nat × Nat} (hG : GridOk h) (hp : p < ports h) (hF : F.length = nR h * nC h) (e : Enough p f h F s) {x : UInt8} (hx : x ∈ lets h F s) : Enough p f (putG h s.1 x) (F.set s.1 true) s := by
  have hok := e.ok hG hp
  unfold lets at hx
  by_cases hs : F.getD s.1 false = true
  · rw [if_pos hs] at hx
    rw [List.mem_singleton.1 hx, putG_self hG hok.cell, set_same hs]; exact e
  · exact e.put hG hp hF (by simpa using hs) x
def GoIH (P : Program) (fid q p f : Nat) : Prop := ∀ (h : Grid) (a : Option Addr) (cap : Nat) (F : List Bool) (aF : Option Addr) (capF lF : Nat) (s : Nat × Nat) (c b : Nat) (w : World), lF = F.length → Sl rStr w a h → Sl rBool w aF F → GridOk h → p < ports h → F.length = nR h * nC h → Enough p f h F s → b ≤ 100 → c ≤ 1000 →
  Fn P fid (L9 h a cap aF capF lF ((s.1 / nC h : Nat) : Int) ((s.1 % nC h : Nat) : Int) s.2 q c b) w (fun v w1 => v = vint (goM q f h F s c b : Nat) ∧ Keep [] w w1)
theorem sl9GoAt {q p f : Nat} (ih : GoIH Try.prog 84 q p f) (h : Grid) (a : Option Addr) (cap : Nat) (F : List Bool) (aF : Option Addr) (capF lF : Nat) (s : Nat × Nat) (x : UInt8) (i k : Int) (c b : Nat) (w : World) (hx : letter h s.1 = x) (hlF : lF = F.length) (hh : Sl rStr w a h) (hF : Sl rBool w aF F) (hG : GridOk h) (hp : p < ports h) (hlen : F.length = nR h * nC h) (he : Enough p (f + 1) h F s) (hs : F.getD s.1 false = true) (hb : b ≤ 100) (hc : c ≤ 1000)
    (hl : leaveI (nR h) (nC h) i k = ex h s) (hn : ex h s < 0 → i = (((nx h s).1 / nC h : Nat) : Int) ∧ k = (((nx h s).1 % nC h : Nat) : Int) ∧ (nx h s).2 = bend (letter h s.1) s.2) (hi : -100 ≤ i ∧ i ≤ 100) (hk : -100 ≤ k ∧ k ≤ 100) :
    Fn Try.prog 84 (L9 h a cap aF capF lF i k (bend x s.2) q c b) w (fun v w1 => v = vint (goV q f h F s c b : Nat) ∧ Keep [] w w1) := by
  subst hx
  unfold goV
  cases ha : afterN h s with
  | inl e =>
    have hex : ex h s = (e : Int) := by unfold ex; rw [ha]
    refine (sl9GoOut h a cap aF capF lF i k _ q c b e w hh hG (hl.trans hex) hi hk).mono fun v w1 r => ⟨r.1, by rw [r.2]; exact Keep.refl _ _⟩
  | inr s' =>
    have hex : ex h s = -1 := by unfold ex; rw [ha]
    have hnx : nx h s = s' := by unfold nx; rw [ha]
    obtain ⟨e1, e2, e3⟩ := hn (by rw [hex]; decide)
    rw [hnx] at e1 e2 e3
    rw [e1, e2, ← e3]
    exact ih h a cap F aF capF lF s' c b w hlF hh hF hG hp hlen (he.next hs ha) hb hc

set_option maxHeartbeats 1000000 in
theorem sl9GoIn (h : Grid) (a : Option Addr) (cap : Nat) (F : List Bool) (aF : Option Addr) (capF : Nat) (s : Nat × Nat) (c b q p f : Nat) (w : World) (ih : GoIH Try.prog 84 q p f) (hh : Sl rStr w a h) (hFs : Sl rBool w aF F) (hG : GridOk h) (hp : p < ports h) (hlen : F.length = nR h * nC h) (he : Enough p (f + 1) h F s) (hb : b ≤ 100) (hc : c ≤ 1000) : Fn Try.prog 84 [.slice a h.length cap, .slice aF F.length capF, vint ((s.1 / nC h : Nat) : Int), vint ((s.1 % nC h : Nat) : Int), vint s.2, vint q, vint c, vint b] w (fun v w1 => v = vint (goM q (f + 1) h F s c b : Nat) ∧ Keep [] w w1) := by
  refine Fn.enter (n := 120) Try.func84 rfl rfl rfl ?_
  show WC _ _ _ _ [(0, .slice a h.length cap), (1, .slice aF F.length capF), (2, vint ((s.1 / nC h : Nat) : Int)), (3, vint ((s.1 % nC h : Nat) : Int)), (4, vint s.2), (5, vint q), (6, vint c), (7, vint b)] _
  have hH := Hp.start [] w
  have hok := he.ok hG hp
  obtain ⟨h1, h2, h3, h4, h5, h6⟩ := id hG
  obtain ⟨b1, off, rfl⟩ := hh.addr (by omega)
  have hF := cellF hG hok.cell
  obtain ⟨hc25, hrl, hcl, hrow, hdi, hmi⟩ := hF
  obtain ⟨b2, off2, rfl⟩ := hFs.addr (by rw [hlen]; exact Nat.lt_of_le_of_lt (Nat.zero_le _) hok.cell)
  have hrowN : (h.getD (s.1 / nC h) []).length = nC h := hrow
  have hm5N : nC h ≤ 5 := h4
  have hclN : s.1 % nC h < nC h := hcl
  have hrlN : s.1 / nC h < h.length := hrl
  have hdI : (0 : Int) ≤ ((s.1 / nC h : Nat) : Int) ∧ ((s.1 / nC h : Nat) : Int) < (h.length : Int) := ⟨Int.natCast_nonneg _, Int.ofNat_lt.2 hrlN⟩
  have hmI2 : (0 : Int) ≤ ((s.1 % nC h : Nat) : Int) ∧ ((s.1 % nC h : Nat) : Int) < (nC h : Int) := ⟨Int.natCast_nonneg _, Int.ofNat_lt.2 hclN⟩
  have hmd : ((s.1 / nC h : Nat) : Int) * ((h.getD 0 []).length : Int) + ((s.1 % nC h : Nat) : Int) = (s.1 : Int) := by
    have := Nat.div_add_mod s.1 (nC h)
    have h2 : ((s.1 / nC h * nC h + s.1 % nC h : Nat) : Int) = (s.1 : Int) := by rw [Nat.mul_comm]; rw [this]
    exact h2
  have hmb := mulB ((s.1 / nC h : Nat) : Int) ((h.getD 0 []).length : Int) (by omega) (by omega)
  have hlF : F.length ≤ 25 := by rw [hlen]; exact cells_le hG
  rw [goM_fold hG hok.cell]
  refine WC.seq ?_
  refine WC.region ?_
  refine WL.u rfl rfl (Wt.plain rfl) (Ex.assign rfl) ?_
  refine WL.next ?_
  refine WC.seq ?_
  refine WC.region ?_
  refine WL.u rfl rfl (Wt.plain rfl) (Ex.move rfl) ?_
  refine WL.u rfl rfl (Wt.plain rfl) (Ex.lenSl Try.underlying22 rfl) ?_
  refine WL.u rfl rfl (Wt.plain rfl) (Ex.assign rfl) ?_
  refine WL.next ?_
  refine WC.seq ?_
  refine WC.region ?_
  refine WL.u rfl rfl (Wt.plain rfl) (Ex.move rfl) ?_
  refine WL.u rfl rfl (Wt.plain rfl) (Ex.indexAddr Try.underlying22 ty9 rfl rfl (by omega)) ?_
  refine WL.u rfl rfl (Wt.plain rfl) (Ex.loadSl flat9 (hh.kept hH.keep) rfl rfl (getD_get h 0 [] (by omega))) ?_
  refine WL.u rfl rfl (Wt.plain rfl) (Ex.lenStr Try.underlying9 rfl) ?_
  refine WL.u rfl rfl (Wt.plain rfl) (Ex.assign rfl) ?_
  refine WL.next ?_
  refine WC.seq ?_
  refine WC.region ?_
  refine WL.u rfl rfl (Wt.plain rfl) (Ex.move rfl) ?_
  refine WL.u rfl rfl (Wt.plain rfl) (Ex.move rfl) ?_
  refine WL.u rfl rfl (Wt.plain rfl) (Ex.move rfl) ?_
  refine WL.u rfl rfl (Wt.plain rfl) (Ex.move rfl) ?_
  refine WL.call callable114 rfl (Wt.plain rfl) rfl rfl (sl2Leave h.length (h.getD 0 []).length _ _ _ (by omega) (by omega) ⟨by omega, by omega⟩ ⟨by omega, by dsimp only [nC] at *; omega⟩) ?_
  rintro _ _ ⟨hv, hw⟩; obtain rfl := hw.symm; obtain rfl := hv.trans (congrArg (Value.int IntKind.i64) (show _ = (-1 : Int) from leave_in hrlN hclN))
  refine WL.u rfl rfl (Wt.plain rfl) (Ex.assign rfl) ?_
  refine WL.next ?_
  refine WC.seq ?_
  refine WC.seq ?_
  refine WC.region ?_
  refine WL.u rfl rfl (Wt.plain rfl) (Ex.move rfl) ?_
  refine WL.u rfl rfl (Wt.plain rfl) (Ex.geq rfl rfl) ?_
  refine WL.next ?_
  refine WC.condF rfl (rfl) ?_
  refine WC.skip ?_
  refine WN.next ?_
  refine WC.seq ?_
  refine WC.region ?_
  refine WL.u rfl rfl (Wt.plain rfl) (Ex.move rfl) ?_
  refine WL.u rfl rfl (Wt.plain rfl) (Ex.move rfl) ?_
  refine WL.u rfl rfl (Wt.plain rfl) (Ex.mul rfl rfl (by omega)) ?_
  refine WL.u rfl rfl (Wt.plain rfl) (Ex.move rfl) ?_
  refine WL.u rfl rfl (Wt.plain rfl) ((Ex.add rfl rfl (by omega)).to (congrArg (Value.int IntKind.i64) hmd)) ?_
  refine WL.u rfl rfl (Wt.plain rfl) (Ex.assign rfl) ?_
  refine WL.next ?_
  refine WC.seq ?_
  refine WC.region ?_
  refine WL.u rfl rfl (Wt.plain rfl) (Ex.assign rfl) ?_
  refine WL.next ?_
  refine WC.seq ?_
  refine WC.seq ?_
  refine WC.region ?_
  refine WL.u rfl rfl (Wt.plain rfl) (Ex.move rfl) ?_
  refine WL.u rfl rfl (Wt.plain rfl) (Ex.move rfl) ?_
  refine WL.u rfl rfl (Wt.plain rfl) (Ex.indexAddr Try.underlying96 ty4 rfl rfl (by rw [hlen]; exact ⟨Int.natCast_nonneg _, Int.ofNat_lt.2 hok.cell⟩)) ?_
  refine WL.u rfl rfl (Wt.plain rfl) (Ex.loadSl flat4 (hFs.kept hH.keep) rfl rfl (getD_get F s.1 false (by rw [hlen]; exact hok.cell))) ?_
  refine WL.next ?_
  refine WC.cond rfl (fun hc3 => ?_) (fun hc3 => ?_)
  · have hc3' := hc3; try simp only [decide_eq_true_eq, decide_eq_false_iff_not, Bool.not_eq_true', Bool.not_eq_false', Bool.not_eq_true, Bool.not_eq_false] at hc3'
    have hlets : lets h F s = [letter h s.1] := if_pos hc3
    refine WC.region ?_
    refine WL.u rfl rfl (Wt.plain rfl) (Ex.move rfl) ?_
    refine WL.u rfl rfl (Wt.plain rfl) (Ex.move rfl) ?_
    refine WL.u rfl rfl (Wt.plain rfl) (Ex.indexAddr Try.underlying22 ty9 rfl rfl (hdI)) ?_
    refine WL.u rfl rfl (Wt.plain rfl) (Ex.loadSl flat9 (hh.kept hH.keep) rfl rfl (getD_get h (s.1 / nC h) [] hrlN)) ?_
    refine WL.u rfl rfl (Wt.plain rfl) (Ex.move rfl) ?_
    refine WL.u rfl rfl (Wt.plain rfl) (Ex.move rfl) ?_
    refine WL.u rfl rfl (Wt.plain rfl) (Ex.add rfl rfl (by omega)) ?_
    refine WL.u rfl rfl (Wt.plain rfl) ((Ex.sliceStr Try.underlying9 rfl rfl rfl (⟨hmI2.1, by omega, by rw [hrowN]; omega⟩)).to (lets_slice hrowN hclN hlets)) ?_
    refine WL.u rfl rfl (Wt.plain rfl) (Ex.assign rfl) ?_
    refine WL.next ?_
    refine WC.seq ?_
    refine WC.seq ?_
    refine WC.region ?_
    refine WL.u rfl rfl (Wt.plain rfl) (Ex.assign rfl) ?_
    refine WL.next ?_
    refine WC.block ?_
    refine WC.loop (ι := Nat) (fun j => [(0, .slice (some ⟨b1, off, none⟩) h.length cap), (1, .slice (some ⟨b2, off2, none⟩) F.length capF), (2, vint ((s.1 / nC h : Nat) : Int)), (3, vint ((s.1 % nC h : Nat) : Int)), (4, vint s.2), (5, vint q), (6, vint c), (7, vint (foldT q f h F s c ((lets h F s).take j) b : Nat)), (17, vint (h.length : Nat)), (18, vint ((h.getD 0 []).length : Nat)), (20, vint s.1), (21, vstr (lets h F s)), (22, vint j)]) (fun j wn => Hp [] w wn [] ∧ j ≤ (lets h F s).length) (fun j => (lets h F s).length - j) (0) (by exact ⟨rfl, rfl, rfl, rfl, rfl, rfl, rfl, rfl, rfl, rfl, rfl, rfl, rfl, trivial⟩) ?_ ?_
    · exact ⟨hH, Nat.zero_le _⟩
    rintro j wn ⟨hH, hj⟩
    have hfl := foldT_le q f h F s c ((lets h F s).take j) b
    intro mu0 hmu; try dsimp only at hmu
    show WC _ _ _ _ [(0, .slice (some ⟨b1, off, none⟩) h.length cap), (1, .slice (some ⟨b2, off2, none⟩) F.length capF), (2, vint ((s.1 / nC h : Nat) : Int)), (3, vint ((s.1 % nC h : Nat) : Int)), (4, vint s.2), (5, vint q), (6, vint c), (7, vint (foldT q f h F s c ((lets h F s).take j) b : Nat)), (17, vint (h.length : Nat)), (18, vint ((h.getD 0 []).length : Nat)), (20, vint s.1), (21, vstr (lets h F s)), (22, vint j)] _
    refine WC.seq ?_
    refine WC.seq ?_
    refine WC.region ?_
    refine WL.u rfl rfl (Wt.plain rfl) (Ex.move rfl) ?_
    refine WL.u rfl rfl (Wt.plain rfl) (Ex.move rfl) ?_
    refine WL.u rfl rfl (Wt.plain rfl) (Ex.lenStr Try.underlying9 rfl) ?_
    refine WL.u rfl rfl (Wt.plain rfl) (Ex.lss rfl rfl) ?_
    refine WL.next ?_
    refine WC.cond rfl (fun hc4 => ?_) (fun hc4 => ?_)
    · have hc4' := hc4; try simp only [decide_eq_true_eq, decide_eq_false_iff_not, Bool.not_eq_true', Bool.not_eq_false', Bool.not_eq_true, Bool.not_eq_false] at hc4'
      generalize hbb : foldT q f h F s c ((lets h F s).take j) b = bb at hfl ⊢
      have hjl : j < (lets h F s).length := by omega
      have hll := lets_len h F s
      have hget := getD_get (lets h F s) j 0 hjl
      have hxo := lets_ok hG hok.cell _ (List.mem_of_getElem? hget)
      refine WC.skip ?_
      refine WN.next ?_
      refine WC.seq ?_
      refine WC.block ?_
      refine WC.seq ?_
      refine WC.region ?_
      refine WL.u rfl rfl (Wt.plain rfl) (Ex.move rfl) ?_
      refine WL.u rfl rfl (Wt.plain rfl) (Ex.assign rfl) ?_
      refine WL.next ?_
      refine WC.seq ?_
      refine WC.seq ?_
      refine WC.quietK rfl (by kernel_rfl) ?_
      refine WQ.u rfl rfl (Wt.plain rfl) (fun w hC => Ex.move rfl) ?_
      refine WQ.u rfl rfl (Wt.plain rfl) (fun w hC => Ex.move rfl) ?_
      refine WQ.u rfl rfl (Wt.plain rfl) (fun w hC => Ex.indexStr Try.underlying9 rfl rfl (by omega)) ?_
      refine WQ.u rfl rfl (Wt.plain rfl) (fun w hC => Ex.move rfl) ?_
      refine WQ.u rfl rfl (Wt.plain rfl) (fun w hC => Ex.move rfl) ?_
      refine WQ.u rfl rfl (Wt.plain rfl) (fun w hC => Ex.indexAddr Try.underlying22 ty9 rfl rfl (hdI)) ?_
      refine WQ.u rfl rfl (Wt.plain rfl) (fun w hC => Ex.loadSl flat9 ((hh.kept hH.keep).kept hC) rfl rfl (getD_get h (s.1 / nC h) [] hrlN)) ?_
      refine WQ.u rfl rfl (Wt.plain rfl) (fun w hC => Ex.move rfl) ?_
      refine WQ.u rfl rfl (Wt.plain rfl) (fun w hC => Ex.indexStr Try.underlying9 rfl rfl (by rw [hrowN]; exact hmI2)) ?_
      refine WQ.u rfl rfl (Wt.plain rfl) (fun w hC => Ex.neq rfl rfl) ?_
      refine WQ.nil ?_
      intro wn hC; replace hH := hH.call hC; clear hC
      refine WN.next ?_
      refine WC.cond rfl (fun hc5 => ?_) (fun hc5 => ?_)
      · have hc5' := hc5; try simp only [decide_eq_true_eq, decide_eq_false_iff_not, Bool.not_eq_true', Bool.not_eq_false', Bool.not_eq_true, Bool.not_eq_false] at hc5'
        have hcst : cst h s.1 ((lets h F s).getD j 0) = 1 := if_neg (show ¬ (lets h F s).getD j 0 = letter h s.1 from fun e => absurd (congrArg (fun c : UInt8 => (c.toNat : Int)) e) (of_decide_eq_true hc5))
        refine WC.region ?_
        refine WL.u rfl rfl (Wt.plain rfl) (Ex.move rfl) ?_
        refine WL.u rfl rfl (Wt.plain rfl) (Ex.add rfl rfl (by omega)) ?_
        refine WL.u rfl rfl (Wt.plain rfl) (Ex.assign rfl) ?_
        refine WL.next ?_
        refine WC.seq ?_
        refine WC.seq ?_
        refine WC.region ?_
        refine WL.u rfl rfl (Wt.plain rfl) (Ex.move rfl) ?_
        refine WL.u rfl rfl (Wt.plain rfl) (Ex.move rfl) ?_
        refine WL.u rfl rfl (Wt.plain rfl) (Ex.geq rfl rfl) ?_
        refine WL.next ?_
        refine WC.cond rfl (fun hc6 => ?_) (fun hc6 => ?_)
        · have hc6' := hc6; try simp only [decide_eq_true_eq, decide_eq_false_iff_not, Bool.not_eq_true', Bool.not_eq_false', Bool.not_eq_true, Bool.not_eq_false] at hc6'
          refine WC.exit ?_
          refine WN.exitThen ?_
          refine WN.exitHere ?_
          refine WN.next ?_
          refine WC.region ?_
          refine WL.u rfl rfl (Wt.plain rfl) (Ex.move rfl) ?_
          refine WL.u rfl rfl (Wt.plain rfl) (Ex.add rfl rfl (by omega)) ?_
          refine WL.u rfl rfl (Wt.plain rfl) (Ex.assign rfl) ?_
          refine WL.last ?_
          refine WN.round (j + 1) (by exact ⟨rfl, rfl, rfl, rfl, rfl, rfl, rfl, congrArg (fun x : Nat => some (vint x)) (show _ = foldT q f h F s c ((lets h F s).take (j + 1)) b by rw [take_snoc hget, foldT_snoc, hbb]; symm; unfold tryW; exact leaveW_prune (by rw [hcst]; omega)), rfl, rfl, rfl, rfl, rfl, trivial⟩) ?_ ?_
          · exact ⟨hH, by omega⟩
          · (try dsimp only); omega
        have hc6' := hc6; try simp only [decide_eq_true_eq, decide_eq_false_iff_not, Bool.not_eq_true', Bool.not_eq_false', Bool.not_eq_true, Bool.not_eq_false] at hc6'
        refine WC.skip ?_
        refine WN.next ?_
        refine WC.seq ?_
        refine WC.region ?_
        refine WL.lit0 Try.underlying96 ty4 rfl (Wt.plain rfl) hH (fun b87 wn hb87 hk87 hH => ?_)
        have ho87 := Own.nil rBool
        refine WL.u rfl rfl (Wt.plain rfl) (Ex.move rfl) ?_
        refine WL.appendS (r := rBool) (m := F) Try.underlying96 ty4 rfl rfl rfl ((hFs.kept hH.keep)) rfl (Wt.plain rfl) hH ho87 (by simp only [List.length_nil]; omega) (by simp only [List.length_nil]; omega) (fun b87 cap87 cur87 wn x87 hk87 hH ho87 => ?_)
        rw [List.nil_append] at ho87
        refine WL.u rfl rfl (Wt.plain rfl) (Ex.assign rfl) ?_
        refine WL.next ?_
        refine WC.seq ?_
        refine WC.region ?_
        refine WL.u rfl rfl (Wt.plain rfl) (Ex.move rfl) ?_
        refine WL.u rfl rfl (Wt.plain rfl) (Ex.move rfl) ?_
        refine WL.u rfl rfl (Wt.plain rfl) (Ex.indexAddr Try.underlying96 ty4 rfl rfl (⟨Int.natCast_nonneg _, Int.ofNat_lt.2 (show s.1 < F.length by rw [hlen]; exact hok.cell)⟩)) ?_
        refine WL.store1 ty4 rfl rfl rfl (Wt.plain rfl) hH (ho87.idx rfl (by rw [hlen]; exact hok.cell)) (by simp) (fun wn hk hH => ?_)
        replace ho87 := ho87.set rfl s.1 true
        refine WL.next ?_
        refine WC.seq ?_
        refine WC.region ?_
        refine WL.u rfl rfl (Wt.plain rfl) (Ex.move rfl) ?_
        refine WL.u rfl rfl (Wt.plain rfl) (Ex.move rfl) ?_
        refine WL.u rfl rfl (Wt.plain rfl) (Ex.indexStr Try.underlying9 rfl rfl (by omega)) ?_
        refine WL.u rfl rfl (Wt.plain rfl) (Ex.move rfl) ?_
        refine WL.call callable102 rfl (Wt.plain rfl) rfl rfl (sl2Bend ((lets h F s).getD j 0) s.2 _ hok.d) ?_
        rintro _ _ ⟨rfl, hw⟩; obtain rfl := hw.symm
        refine WL.u rfl rfl (Wt.plain rfl) (Ex.assign rfl) ?_
        refine WL.next ?_
        refine WC.seq ?_
        have hb4 := bend_lt ((lets h F s).getD j 0) s.2 hok.d
        refine WC.region ?_
        refine WL.u rfl rfl (Wt.plain rfl) (Ex.move rfl) ?_
        refine WL.u rfl rfl (Wt.plain rfl) (Ex.move rfl) ?_
        refine WL.u rfl rfl (Wt.plain rfl) (Ex.move rfl) ?_
        refine WL.call callable115 rfl (Wt.plain rfl) rfl rfl (sl2Step _ _ (bend ((lets h F s).getD j 0) s.2) _ ⟨by omega, by omega⟩ ⟨by omega, by omega⟩ hb4) ?_
        rintro _ _ ⟨rfl, hw⟩; obtain rfl := hw.symm
        refine WL.u rfl rfl (Wt.plain rfl) (Ex.move rfl) ?_
        refine WL.u rfl rfl (Wt.plain rfl) (Ex.extract rfl rfl) ?_
        refine WL.u rfl rfl (Wt.plain rfl) (Ex.extract rfl rfl) ?_
        refine WL.u rfl rfl (Wt.plain rfl) (Ex.assign rfl) ?_
        refine WL.u rfl rfl (Wt.plain rfl) (Ex.assign rfl) ?_
        refine WL.next ?_
        have hP := putG_ok hG s.1 hxo
        have n1 := putG_nR h s.1 ((lets h F s).getD j 0)
        have m1 := putG_nC hG s.1 ((lets h F s).getD j 0)
        have hlx : letter (putG h s.1 ((lets h F s).getD j 0)) s.1 = (lets h F s).getD j 0 := by rw [putG_letter hok.cell, if_pos rfl]
        have hokP : Ok (putG h s.1 ((lets h F s).getD j 0)) s := ⟨by rw [n1, m1]; exact hok.cell, hok.d⟩
        have hinP := step_in hP.sz hokP rfl
        rw [hlx, m1] at hinP
        have hEn := enough_try hG hp hlen he (List.mem_of_getElem? hget)
        have hsb := stepI_bound (i := ((s.1 / nC h : Nat) : Int)) (k := ((s.1 % nC h : Nat) : Int)) (bend ((lets h F s).getD j 0) s.2) (by omega) (by omega)
        refine WC.region ?_
        refine WL.u rfl rfl (Wt.plain rfl) (Ex.move rfl) ?_
        refine WL.u rfl rfl (Wt.plain rfl) (Ex.move rfl) ?_
        refine WL.u rfl rfl (Wt.plain rfl) (Ex.move rfl) ?_
        refine WL.u rfl rfl (Wt.plain rfl) (Ex.move rfl) ?_
        refine WL.u rfl rfl (Wt.plain rfl) (Ex.indexStr Try.underlying9 rfl rfl (by omega)) ?_
        refine WL.call callable116 rfl (Wt.plain rfl) rfl rfl (sl1Put h _ _ s.1 ((lets h F s).getD j 0) _ (hh.kept hH.keep) hG hok.cell) ?_
        rintro _ wn ⟨hC, hN⟩; obtain ⟨b110, cap110, cur110, rfl, hge110, hbb110, ho110⟩ := hN.own; replace hH := hH.push hC hge110 hbb110; clear hC hN
        refine WL.u rfl rfl (Wt.plain rfl) (Ex.move rfl) ?_
        refine WL.u rfl rfl (Wt.plain rfl) (Ex.move rfl) ?_
        refine WL.u rfl rfl (Wt.plain rfl) (Ex.move rfl) ?_
        refine WL.u rfl rfl (Wt.plain rfl) (Ex.move rfl) ?_
        refine WL.u rfl rfl (Wt.plain rfl) (Ex.move rfl) ?_
        refine WL.u rfl rfl (Wt.plain rfl) (Ex.move rfl) ?_
        refine WL.u rfl rfl (Wt.plain rfl) (Ex.move rfl) ?_
        refine WL.call callable84 rfl (Wt.plain rfl) rfl rfl (sl9GoAt ih (putG h s.1 ((lets h F s).getD j 0)) _ _ (F.set s.1 true) _ _ _ s _ _ _ (c + 1) bb _ hlx (by rw [List.length_set]; rfl) (ho110.slAt hH 0 rfl) (ho87.slAt hH 1 rfl) hP (by unfold ports; rw [n1, m1]; exact hp) (by rw [List.length_set, n1, m1]; exact hlen) hEn (getD_set_self F (by rw [hlen]; exact hok.cell)) (by omega) (by omega) (by rw [m1]; exact hinP.1) (by rw [m1, hlx]; exact hinP.2) hsb.1 hsb.2) ?_
        rintro _ wn ⟨rfl, hC⟩; replace hH := hH.call hC; clear hC
        refine WL.u rfl rfl (Wt.plain rfl) (Ex.assign rfl) ?_
        refine WL.last ?_
        refine WN.normalBlock ?_
        refine WN.next ?_
        refine WC.region ?_
        refine WL.u rfl rfl (Wt.plain rfl) (Ex.move rfl) ?_
        refine WL.u rfl rfl (Wt.plain rfl) (Ex.add rfl rfl (by omega)) ?_
        refine WL.u rfl rfl (Wt.plain rfl) (Ex.assign rfl) ?_
        refine WL.last ?_
        replace hH := hH.first0
        refine WN.round (j + 1) (by exact ⟨rfl, rfl, rfl, rfl, rfl, rfl, rfl, congrArg (fun x : Nat => some (vint x)) (show _ = foldT q f h F s c ((lets h F s).take (j + 1)) b by rw [take_snoc hget, foldT_snoc, hbb]; symm; rw [tryW_goV (by rw [hcst]; omega), hcst] <;> rfl), rfl, rfl, rfl, rfl, rfl, trivial⟩) ?_ ?_
        · exact ⟨hH.first0, by omega⟩
        · (try dsimp only); omega
      have hc5' := hc5; try simp only [decide_eq_true_eq, decide_eq_false_iff_not, Bool.not_eq_true', Bool.not_eq_false', Bool.not_eq_true, Bool.not_eq_false] at hc5'
      have hcst : cst h s.1 ((lets h F s).getD j 0) = 0 := if_pos (show (lets h F s).getD j 0 = letter h s.1 from UInt8.toNat_inj.1 (Int.ofNat.inj (Classical.not_not.1 (of_decide_eq_false hc5))))
      refine WC.skip ?_
      refine WN.next ?_
      refine WC.seq ?_
      refine WC.seq ?_
      refine WC.region ?_
      refine WL.u rfl rfl (Wt.plain rfl) (Ex.move rfl) ?_
      refine WL.u rfl rfl (Wt.plain rfl) (Ex.move rfl) ?_
      refine WL.u rfl rfl (Wt.plain rfl) (Ex.geq rfl rfl) ?_
      refine WL.next ?_
      refine WC.cond rfl (fun hc6 => ?_) (fun hc6 => ?_)
      · have hc6' := hc6; try simp only [decide_eq_true_eq, decide_eq_false_iff_not, Bool.not_eq_true', Bool.not_eq_false', Bool.not_eq_true, Bool.not_eq_false] at hc6'
        refine WC.exit ?_
        refine WN.exitThen ?_
        refine WN.exitHere ?_
        refine WN.next ?_
        refine WC.region ?_
        refine WL.u rfl rfl (Wt.plain rfl) (Ex.move rfl) ?_
        refine WL.u rfl rfl (Wt.plain rfl) (Ex.add rfl rfl (by omega)) ?_
        refine WL.u rfl rfl (Wt.plain rfl) (Ex.assign rfl) ?_
        refine WL.last ?_
        refine WN.round (j + 1) (by exact ⟨rfl, rfl, rfl, rfl, rfl, rfl, rfl, congrArg (fun x : Nat => some (vint x)) (show _ = foldT q f h F s c ((lets h F s).take (j + 1)) b by rw [take_snoc hget, foldT_snoc, hbb]; symm; unfold tryW; exact leaveW_prune (by rw [hcst]; omega)), rfl, rfl, rfl, rfl, rfl, trivial⟩) ?_ ?_
        · exact ⟨hH, by omega⟩
        · (try dsimp only); omega
      have hc6' := hc6; try simp only [decide_eq_true_eq, decide_eq_false_iff_not, Bool.not_eq_true', Bool.not_eq_false', Bool.not_eq_true, Bool.not_eq_false] at hc6'
      refine WC.skip ?_
      refine WN.next ?_
      refine WC.seq ?_
      refine WC.region ?_
      refine WL.lit0 Try.underlying96 ty4 rfl (Wt.plain rfl) hH (fun b87 wn hb87 hk87 hH => ?_)
      have ho87 := Own.nil rBool
      refine WL.u rfl rfl (Wt.plain rfl) (Ex.move rfl) ?_
      refine WL.appendS (r := rBool) (m := F) Try.underlying96 ty4 rfl rfl rfl ((hFs.kept hH.keep)) rfl (Wt.plain rfl) hH ho87 (by simp only [List.length_nil]; omega) (by simp only [List.length_nil]; omega) (fun b87 cap87 cur87 wn x87 hk87 hH ho87 => ?_)
      rw [List.nil_append] at ho87
      refine WL.u rfl rfl (Wt.plain rfl) (Ex.assign rfl) ?_
      refine WL.next ?_
      refine WC.seq ?_
      refine WC.region ?_
      refine WL.u rfl rfl (Wt.plain rfl) (Ex.move rfl) ?_
      refine WL.u rfl rfl (Wt.plain rfl) (Ex.move rfl) ?_
      refine WL.u rfl rfl (Wt.plain rfl) (Ex.indexAddr Try.underlying96 ty4 rfl rfl (⟨Int.natCast_nonneg _, Int.ofNat_lt.2 (show s.1 < F.length by rw [hlen]; exact hok.cell)⟩)) ?_
      refine WL.store1 ty4 rfl rfl rfl (Wt.plain rfl) hH (ho87.idx rfl (by rw [hlen]; exact hok.cell)) (by simp) (fun wn hk hH => ?_)
      replace ho87 := ho87.set rfl s.1 true
      refine WL.next ?_
      refine WC.seq ?_
      refine WC.region ?_
      refine WL.u rfl rfl (Wt.plain rfl) (Ex.move rfl) ?_
      refine WL.u rfl rfl (Wt.plain rfl) (Ex.move rfl) ?_
      refine WL.u rfl rfl (Wt.plain rfl) (Ex.indexStr Try.underlying9 rfl rfl (by omega)) ?_
      refine WL.u rfl rfl (Wt.plain rfl) (Ex.move rfl) ?_
      refine WL.call callable102 rfl (Wt.plain rfl) rfl rfl (sl2Bend ((lets h F s).getD j 0) s.2 _ hok.d) ?_
      rintro _ _ ⟨rfl, hw⟩; obtain rfl := hw.symm
      refine WL.u rfl rfl (Wt.plain rfl) (Ex.assign rfl) ?_
      refine WL.next ?_
      refine WC.seq ?_
      have hb4 := bend_lt ((lets h F s).getD j 0) s.2 hok.d
      refine WC.region ?_
      refine WL.u rfl rfl (Wt.plain rfl) (Ex.move rfl) ?_
      refine WL.u rfl rfl (Wt.plain rfl) (Ex.move rfl) ?_
      refine WL.u rfl rfl (Wt.plain rfl) (Ex.move rfl) ?_
      refine WL.call callable115 rfl (Wt.plain rfl) rfl rfl (sl2Step _ _ (bend ((lets h F s).getD j 0) s.2) _ ⟨by omega, by omega⟩ ⟨by omega, by omega⟩ hb4) ?_
      rintro _ _ ⟨rfl, hw⟩; obtain rfl := hw.symm
      refine WL.u rfl rfl (Wt.plain rfl) (Ex.move rfl) ?_
      refine WL.u rfl rfl (Wt.plain rfl) (Ex.extract rfl rfl) ?_
      refine WL.u rfl rfl (Wt.plain rfl) (Ex.extract rfl rfl) ?_
      refine WL.u rfl rfl (Wt.plain rfl) (Ex.assign rfl) ?_
      refine WL.u rfl rfl (Wt.plain rfl) (Ex.assign rfl) ?_
      refine WL.next ?_
      have hP := putG_ok hG s.1 hxo
      have n1 := putG_nR h s.1 ((lets h F s).getD j 0)
      have m1 := putG_nC hG s.1 ((lets h F s).getD j 0)
      have hlx : letter (putG h s.1 ((lets h F s).getD j 0)) s.1 = (lets h F s).getD j 0 := by rw [putG_letter hok.cell, if_pos rfl]
      have hokP : Ok (putG h s.1 ((lets h F s).getD j 0)) s := ⟨by rw [n1, m1]; exact hok.cell, hok.d⟩
      have hinP := step_in hP.sz hokP rfl
      rw [hlx, m1] at hinP
      have hEn := enough_try hG hp hlen he (List.mem_of_getElem? hget)
      have hsb := stepI_bound (i := ((s.1 / nC h : Nat) : Int)) (k := ((s.1 % nC h : Nat) : Int)) (bend ((lets h F s).getD j 0) s.2) (by omega) (by omega)
      refine WC.region ?_
      refine WL.u rfl rfl (Wt.plain rfl) (Ex.move rfl) ?_
      refine WL.u rfl rfl (Wt.plain rfl) (Ex.move rfl) ?_
      refine WL.u rfl rfl (Wt.plain rfl) (Ex.move rfl) ?_
      refine WL.u rfl rfl (Wt.plain rfl) (Ex.move rfl) ?_
      refine WL.u rfl rfl (Wt.plain rfl) (Ex.indexStr Try.underlying9 rfl rfl (by omega)) ?_
      refine WL.call callable116 rfl (Wt.plain rfl) rfl rfl (sl1Put h _ _ s.1 ((lets h F s).getD j 0) _ (hh.kept hH.keep) hG hok.cell) ?_
      rintro _ wn ⟨hC, hN⟩; obtain ⟨b110, cap110, cur110, rfl, hge110, hbb110, ho110⟩ := hN.own; replace hH := hH.push hC hge110 hbb110; clear hC hN
      refine WL.u rfl rfl (Wt.plain rfl) (Ex.move rfl) ?_
      refine WL.u rfl rfl (Wt.plain rfl) (Ex.move rfl) ?_
      refine WL.u rfl rfl (Wt.plain rfl) (Ex.move rfl) ?_
      refine WL.u rfl rfl (Wt.plain rfl) (Ex.move rfl) ?_
      refine WL.u rfl rfl (Wt.plain rfl) (Ex.move rfl) ?_
      refine WL.u rfl rfl (Wt.plain rfl) (Ex.move rfl) ?_
      refine WL.u rfl rfl (Wt.plain rfl) (Ex.move rfl) ?_
      refine WL.call callable84 rfl (Wt.plain rfl) rfl rfl (sl9GoAt ih (putG h s.1 ((lets h F s).getD j 0)) _ _ (F.set s.1 true) _ _ _ s _ _ _ c bb _ hlx (by rw [List.length_set]; rfl) (ho110.slAt hH 0 rfl) (ho87.slAt hH 1 rfl) hP (by unfold ports; rw [n1, m1]; exact hp) (by rw [List.length_set, n1, m1]; exact hlen) hEn (getD_set_self F (by rw [hlen]; exact hok.cell)) (by omega) (by omega) (by rw [m1]; exact hinP.1) (by rw [m1, hlx]; exact hinP.2) hsb.1 hsb.2) ?_
      rintro _ wn ⟨rfl, hC⟩; replace hH := hH.call hC; clear hC
      refine WL.u rfl rfl (Wt.plain rfl) (Ex.assign rfl) ?_
      refine WL.last ?_
      refine WN.normalBlock ?_
      refine WN.next ?_
      refine WC.region ?_
      refine WL.u rfl rfl (Wt.plain rfl) (Ex.move rfl) ?_
      refine WL.u rfl rfl (Wt.plain rfl) (Ex.add rfl rfl (by omega)) ?_
      refine WL.u rfl rfl (Wt.plain rfl) (Ex.assign rfl) ?_
      refine WL.last ?_
      replace hH := hH.first0
      refine WN.round (j + 1) (by exact ⟨rfl, rfl, rfl, rfl, rfl, rfl, rfl, congrArg (fun x : Nat => some (vint x)) (show _ = foldT q f h F s c ((lets h F s).take (j + 1)) b by rw [take_snoc hget, foldT_snoc, hbb]; symm; rw [tryW_goV (by rw [hcst]; omega), hcst] <;> rfl), rfl, rfl, rfl, rfl, rfl, trivial⟩) ?_ ?_
      · exact ⟨hH.first0, by omega⟩
      · (try dsimp only); omega
    have hc4' := hc4; try simp only [decide_eq_true_eq, decide_eq_false_iff_not, Bool.not_eq_true', Bool.not_eq_false', Bool.not_eq_true, Bool.not_eq_false] at hc4'
    generalize hbb : foldT q f h F s c ((lets h F s).take j) b = bb at hfl ⊢
    refine WC.exit ?_
    refine WN.exitThen ?_
    refine WN.exitThen ?_
    refine WN.exitHere ?_
    refine WN.next ?_
    refine WC.seq ?_
    refine WC.region ?_
    refine WL.u rfl rfl (Wt.plain rfl) (Ex.move rfl) ?_
    refine WL.u rfl rfl (Wt.plain rfl) (Ex.assign rfl) ?_
    refine WL.next ?_
    refine WC.ret ?_
    refine WN.body1 rfl rfl ?_
    have hje : j = (lets h F s).length := by omega
    exact ⟨by rw [← hbb, hje, List.take_length], hH.keep⟩
  have hc3' := hc3; try simp only [decide_eq_true_eq, decide_eq_false_iff_not, Bool.not_eq_true', Bool.not_eq_false', Bool.not_eq_true, Bool.not_eq_false] at hc3'
  have hlets : lets h F s = [46, 114, 102] := if_neg (by rw [hc3]; decide)
  refine WC.skip ?_
  refine WN.next ?_
  refine WC.seq ?_
  refine WC.seq ?_
  refine WC.region ?_
  refine WL.u rfl rfl (Wt.plain rfl) (Ex.assign rfl) ?_
  refine WL.next ?_
  refine WC.block ?_
  refine WC.loop (ι := Nat) (fun j => [(0, .slice (some ⟨b1, off, none⟩) h.length cap), (1, .slice (some ⟨b2, off2, none⟩) F.length capF), (2, vint ((s.1 / nC h : Nat) : Int)), (3, vint ((s.1 % nC h : Nat) : Int)), (4, vint s.2), (5, vint q), (6, vint c), (7, vint (foldT q f h F s c ((lets h F s).take j) b : Nat)), (17, vint (h.length : Nat)), (18, vint ((h.getD 0 []).length : Nat)), (20, vint s.1), (21, vstr (lets h F s)), (22, vint j)]) (fun j wn => Hp [] w wn [] ∧ j ≤ (lets h F s).length) (fun j => (lets h F s).length - j) (0) (by rw [hlets]; exact ⟨rfl, rfl, rfl, rfl, rfl, rfl, rfl, rfl, rfl, rfl, rfl, rfl, rfl, trivial⟩) ?_ ?_
  · exact ⟨hH, Nat.zero_le _⟩
  rintro j wn ⟨hH, hj⟩
  have hfl := foldT_le q f h F s c ((lets h F s).take j) b
  intro mu0 hmu; try dsimp only at hmu
  show WC _ _ _ _ [(0, .slice (some ⟨b1, off, none⟩) h.length cap), (1, .slice (some ⟨b2, off2, none⟩) F.length capF), (2, vint ((s.1 / nC h : Nat) : Int)), (3, vint ((s.1 % nC h : Nat) : Int)), (4, vint s.2), (5, vint q), (6, vint c), (7, vint (foldT q f h F s c ((lets h F s).take j) b : Nat)), (17, vint (h.length : Nat)), (18, vint ((h.getD 0 []).length : Nat)), (20, vint s.1), (21, vstr (lets h F s)), (22, vint j)] _
  refine WC.seq ?_
  refine WC.seq ?_
  refine WC.region ?_
  refine WL.u rfl rfl (Wt.plain rfl) (Ex.move rfl) ?_
  refine WL.u rfl rfl (Wt.plain rfl) (Ex.move rfl) ?_
  refine WL.u rfl rfl (Wt.plain rfl) (Ex.lenStr Try.underlying9 rfl) ?_
  refine WL.u rfl rfl (Wt.plain rfl) (Ex.lss rfl rfl) ?_
  refine WL.next ?_
  refine WC.cond rfl (fun hc4 => ?_) (fun hc4 => ?_)
  · have hc4' := hc4; try simp only [decide_eq_true_eq, decide_eq_false_iff_not, Bool.not_eq_true', Bool.not_eq_false', Bool.not_eq_true, Bool.not_eq_false] at hc4'
    generalize hbb : foldT q f h F s c ((lets h F s).take j) b = bb at hfl ⊢
    have hjl : j < (lets h F s).length := by omega
    have hll := lets_len h F s
    have hget := getD_get (lets h F s) j 0 hjl
    have hxo := lets_ok hG hok.cell _ (List.mem_of_getElem? hget)
    refine WC.skip ?_
    refine WN.next ?_
    refine WC.seq ?_
    refine WC.block ?_
    refine WC.seq ?_
    refine WC.region ?_
    refine WL.u rfl rfl (Wt.plain rfl) (Ex.move rfl) ?_
    refine WL.u rfl rfl (Wt.plain rfl) (Ex.assign rfl) ?_
    refine WL.next ?_
    refine WC.seq ?_
    refine WC.seq ?_
    refine WC.quietK rfl (by kernel_rfl) ?_
    refine WQ.u rfl rfl (Wt.plain rfl) (fun w hC => Ex.move rfl) ?_
    refine WQ.u rfl rfl (Wt.plain rfl) (fun w hC => Ex.move rfl) ?_
    refine WQ.u rfl rfl (Wt.plain rfl) (fun w hC => Ex.indexStr Try.underlying9 rfl rfl (by omega)) ?_
    refine WQ.u rfl rfl (Wt.plain rfl) (fun w hC => Ex.move rfl) ?_
    refine WQ.u rfl rfl (Wt.plain rfl) (fun w hC => Ex.move rfl) ?_
    refine WQ.u rfl rfl (Wt.plain rfl) (fun w hC => Ex.indexAddr Try.underlying22 ty9 rfl rfl (hdI)) ?_
    refine WQ.u rfl rfl (Wt.plain rfl) (fun w hC => Ex.loadSl flat9 ((hh.kept hH.keep).kept hC) rfl rfl (getD_get h (s.1 / nC h) [] hrlN)) ?_
    refine WQ.u rfl rfl (Wt.plain rfl) (fun w hC => Ex.move rfl) ?_
    refine WQ.u rfl rfl (Wt.plain rfl) (fun w hC => Ex.indexStr Try.underlying9 rfl rfl (by rw [hrowN]; exact hmI2)) ?_
    refine WQ.u rfl rfl (Wt.plain rfl) (fun w hC => Ex.neq rfl rfl) ?_
    refine WQ.nil ?_
    intro wn hC; replace hH := hH.call hC; clear hC
    refine WN.next ?_
    refine WC.cond rfl (fun hc5 => ?_) (fun hc5 => ?_)
    · have hc5' := hc5; try simp only [decide_eq_true_eq, decide_eq_false_iff_not, Bool.not_eq_true', Bool.not_eq_false', Bool.not_eq_true, Bool.not_eq_false] at hc5'
      have hcst : cst h s.1 ((lets h F s).getD j 0) = 1 := if_neg (show ¬ (lets h F s).getD j 0 = letter h s.1 from fun e => absurd (congrArg (fun c : UInt8 => (c.toNat : Int)) e) (of_decide_eq_true hc5))
      refine WC.region ?_
      refine WL.u rfl rfl (Wt.plain rfl) (Ex.move rfl) ?_
      refine WL.u rfl rfl (Wt.plain rfl) (Ex.add rfl rfl (by omega)) ?_
      refine WL.u rfl rfl (Wt.plain rfl) (Ex.assign rfl) ?_
      refine WL.next ?_
      refine WC.seq ?_
      refine WC.seq ?_
      refine WC.region ?_
      refine WL.u rfl rfl (Wt.plain rfl) (Ex.move rfl) ?_
      refine WL.u rfl rfl (Wt.plain rfl) (Ex.move rfl) ?_
      refine WL.u rfl rfl (Wt.plain rfl) (Ex.geq rfl rfl) ?_
      refine WL.next ?_
      refine WC.cond rfl (fun hc6 => ?_) (fun hc6 => ?_)
      · have hc6' := hc6; try simp only [decide_eq_true_eq, decide_eq_false_iff_not, Bool.not_eq_true', Bool.not_eq_false', Bool.not_eq_true, Bool.not_eq_false] at hc6'
        refine WC.exit ?_
        refine WN.exitThen ?_
        refine WN.exitHere ?_
        refine WN.next ?_
        refine WC.region ?_
        refine WL.u rfl rfl (Wt.plain rfl) (Ex.move rfl) ?_
        refine WL.u rfl rfl (Wt.plain rfl) (Ex.add rfl rfl (by omega)) ?_
        refine WL.u rfl rfl (Wt.plain rfl) (Ex.assign rfl) ?_
        refine WL.last ?_
        refine WN.round (j + 1) (by exact ⟨rfl, rfl, rfl, rfl, rfl, rfl, rfl, congrArg (fun x : Nat => some (vint x)) (show _ = foldT q f h F s c ((lets h F s).take (j + 1)) b by rw [take_snoc hget, foldT_snoc, hbb]; symm; unfold tryW; exact leaveW_prune (by rw [hcst]; omega)), rfl, rfl, rfl, rfl, rfl, trivial⟩) ?_ ?_
        · exact ⟨hH, by omega⟩
        · (try dsimp only); omega
      have hc6' := hc6; try simp only [decide_eq_true_eq, decide_eq_false_iff_not, Bool.not_eq_true', Bool.not_eq_false', Bool.not_eq_true, Bool.not_eq_false] at hc6'
      refine WC.skip ?_
      refine WN.next ?_
      refine WC.seq ?_
      refine WC.region ?_
      refine WL.lit0 Try.underlying96 ty4 rfl (Wt.plain rfl) hH (fun b87 wn hb87 hk87 hH => ?_)
      have ho87 := Own.nil rBool
      refine WL.u rfl rfl (Wt.plain rfl) (Ex.move rfl) ?_
      refine WL.appendS (r := rBool) (m := F) Try.underlying96 ty4 rfl rfl rfl ((hFs.kept hH.keep)) rfl (Wt.plain rfl) hH ho87 (by simp only [List.length_nil]; omega) (by simp only [List.length_nil]; omega) (fun b87 cap87 cur87 wn x87 hk87 hH ho87 => ?_)
      rw [List.nil_append] at ho87
      refine WL.u rfl rfl (Wt.plain rfl) (Ex.assign rfl) ?_
      refine WL.next ?_
      refine WC.seq ?_
      refine WC.region ?_
      refine WL.u rfl rfl (Wt.plain rfl) (Ex.move rfl) ?_
      refine WL.u rfl rfl (Wt.plain rfl) (Ex.move rfl) ?_
      refine WL.u rfl rfl (Wt.plain rfl) (Ex.indexAddr Try.underlying96 ty4 rfl rfl (⟨Int.natCast_nonneg _, Int.ofNat_lt.2 (show s.1 < F.length by rw [hlen]; exact hok.cell)⟩)) ?_
      refine WL.store1 ty4 rfl rfl rfl (Wt.plain rfl) hH (ho87.idx rfl (by rw [hlen]; exact hok.cell)) (by simp) (fun wn hk hH => ?_)
      replace ho87 := ho87.set rfl s.1 true
      refine WL.next ?_
      refine WC.seq ?_
      refine WC.region ?_
      refine WL.u rfl rfl (Wt.plain rfl) (Ex.move rfl) ?_
      refine WL.u rfl rfl (Wt.plain rfl) (Ex.move rfl) ?_
      refine WL.u rfl rfl (Wt.plain rfl) (Ex.indexStr Try.underlying9 rfl rfl (by omega)) ?_
      refine WL.u rfl rfl (Wt.plain rfl) (Ex.move rfl) ?_
      refine WL.call callable102 rfl (Wt.plain rfl) rfl rfl (sl2Bend ((lets h F s).getD j 0) s.2 _ hok.d) ?_
      rintro _ _ ⟨rfl, hw⟩; obtain rfl := hw.symm
      refine WL.u rfl rfl (Wt.plain rfl) (Ex.assign rfl) ?_
      refine WL.next ?_
      refine WC.seq ?_
      have hb4 := bend_lt ((lets h F s).getD j 0) s.2 hok.d
      refine WC.region ?_
      refine WL.u rfl rfl (Wt.plain rfl) (Ex.move rfl) ?_
      refine WL.u rfl rfl (Wt.plain rfl) (Ex.move rfl) ?_
      refine WL.u rfl rfl (Wt.plain rfl) (Ex.move rfl) ?_
      refine WL.call callable115 rfl (Wt.plain rfl) rfl rfl (sl2Step _ _ (bend ((lets h F s).getD j 0) s.2) _ ⟨by omega, by omega⟩ ⟨by omega, by omega⟩ hb4) ?_
      rintro _ _ ⟨rfl, hw⟩; obtain rfl := hw.symm
      refine WL.u rfl rfl (Wt.plain rfl) (Ex.move rfl) ?_
      refine WL.u rfl rfl (Wt.plain rfl) (Ex.extract rfl rfl) ?_
      refine WL.u rfl rfl (Wt.plain rfl) (Ex.extract rfl rfl) ?_
      refine WL.u rfl rfl (Wt.plain rfl) (Ex.assign rfl) ?_
      refine WL.u rfl rfl (Wt.plain rfl) (Ex.assign rfl) ?_
      refine WL.next ?_
      have hP := putG_ok hG s.1 hxo
      have n1 := putG_nR h s.1 ((lets h F s).getD j 0)
      have m1 := putG_nC hG s.1 ((lets h F s).getD j 0)
      have hlx : letter (putG h s.1 ((lets h F s).getD j 0)) s.1 = (lets h F s).getD j 0 := by rw [putG_letter hok.cell, if_pos rfl]
      have hokP : Ok (putG h s.1 ((lets h F s).getD j 0)) s := ⟨by rw [n1, m1]; exact hok.cell, hok.d⟩
      have hinP := step_in hP.sz hokP rfl
      rw [hlx, m1] at hinP
      have hEn := enough_try hG hp hlen he (List.mem_of_getElem? hget)
      have hsb := stepI_bound (i := ((s.1 / nC h : Nat) : Int)) (k := ((s.1 % nC h : Nat) : Int)) (bend ((lets h F s).getD j 0) s.2) (by omega) (by omega)
      refine WC.region ?_
      refine WL.u rfl rfl (Wt.plain rfl) (Ex.move rfl) ?_
      refine WL.u rfl rfl (Wt.plain rfl) (Ex.move rfl) ?_
      refine WL.u rfl rfl (Wt.plain rfl) (Ex.move rfl) ?_
      refine WL.u rfl rfl (Wt.plain rfl) (Ex.move rfl) ?_
      refine WL.u rfl rfl (Wt.plain rfl) (Ex.indexStr Try.underlying9 rfl rfl (by omega)) ?_
      refine WL.call callable116 rfl (Wt.plain rfl) rfl rfl (sl1Put h _ _ s.1 ((lets h F s).getD j 0) _ (hh.kept hH.keep) hG hok.cell) ?_
      rintro _ wn ⟨hC, hN⟩; obtain ⟨b110, cap110, cur110, rfl, hge110, hbb110, ho110⟩ := hN.own; replace hH := hH.push hC hge110 hbb110; clear hC hN
      refine WL.u rfl rfl (Wt.plain rfl) (Ex.move rfl) ?_
      refine WL.u rfl rfl (Wt.plain rfl) (Ex.move rfl) ?_
      refine WL.u rfl rfl (Wt.plain rfl) (Ex.move rfl) ?_
      refine WL.u rfl rfl (Wt.plain rfl) (Ex.move rfl) ?_
      refine WL.u rfl rfl (Wt.plain rfl) (Ex.move rfl) ?_
      refine WL.u rfl rfl (Wt.plain rfl) (Ex.move rfl) ?_
      refine WL.u rfl rfl (Wt.plain rfl) (Ex.move rfl) ?_
      refine WL.call callable84 rfl (Wt.plain rfl) rfl rfl (sl9GoAt ih (putG h s.1 ((lets h F s).getD j 0)) _ _ (F.set s.1 true) _ _ _ s _ _ _ (c + 1) bb _ hlx (by rw [List.length_set]; rfl) (ho110.slAt hH 0 rfl) (ho87.slAt hH 1 rfl) hP (by unfold ports; rw [n1, m1]; exact hp) (by rw [List.length_set, n1, m1]; exact hlen) hEn (getD_set_self F (by rw [hlen]; exact hok.cell)) (by omega) (by omega) (by rw [m1]; exact hinP.1) (by rw [m1, hlx]; exact hinP.2) hsb.1 hsb.2) ?_
      rintro _ wn ⟨rfl, hC⟩; replace hH := hH.call hC; clear hC
      refine WL.u rfl rfl (Wt.plain rfl) (Ex.assign rfl) ?_
      refine WL.last ?_
      refine WN.normalBlock ?_
      refine WN.next ?_
      refine WC.region ?_
      refine WL.u rfl rfl (Wt.plain rfl) (Ex.move rfl) ?_
      refine WL.u rfl rfl (Wt.plain rfl) (Ex.add rfl rfl (by omega)) ?_
      refine WL.u rfl rfl (Wt.plain rfl) (Ex.assign rfl) ?_
      refine WL.last ?_
      replace hH := hH.first0
      refine WN.round (j + 1) (by exact ⟨rfl, rfl, rfl, rfl, rfl, rfl, rfl, congrArg (fun x : Nat => some (vint x)) (show _ = foldT q f h F s c ((lets h F s).take (j + 1)) b by rw [take_snoc hget, foldT_snoc, hbb]; symm; rw [tryW_goV (by rw [hcst]; omega), hcst] <;> rfl), rfl, rfl, rfl, rfl, rfl, trivial⟩) ?_ ?_
      · exact ⟨hH.first0, by omega⟩
      · (try dsimp only); omega
    have hc5' := hc5; try simp only [decide_eq_true_eq, decide_eq_false_iff_not, Bool.not_eq_true', Bool.not_eq_false', Bool.not_eq_true, Bool.not_eq_false] at hc5'
    have hcst : cst h s.1 ((lets h F s).getD j 0) = 0 := if_pos (show (lets h F s).getD j 0 = letter h s.1 from UInt8.toNat_inj.1 (Int.ofNat.inj (Classical.not_not.1 (of_decide_eq_false hc5))))
    refine WC.skip ?_
    refine WN.next ?_
    refine WC.seq ?_
    refine WC.seq ?_
    refine WC.region ?_
    refine WL.u rfl rfl (Wt.plain rfl) (Ex.move rfl) ?_
    refine WL.u rfl rfl (Wt.plain rfl) (Ex.move rfl) ?_
    refine WL.u rfl rfl (Wt.plain rfl) (Ex.geq rfl rfl) ?_
    refine WL.next ?_
    refine WC.cond rfl (fun hc6 => ?_) (fun hc6 => ?_)
    · have hc6' := hc6; try simp only [decide_eq_true_eq, decide_eq_false_iff_not, Bool.not_eq_true', Bool.not_eq_false', Bool.not_eq_true, Bool.not_eq_false] at hc6'
      refine WC.exit ?_
      refine WN.exitThen ?_
      refine WN.exitHere ?_
      refine WN.next ?_
      refine WC.region ?_
      refine WL.u rfl rfl (Wt.plain rfl) (Ex.move rfl) ?_
      refine WL.u rfl rfl (Wt.plain rfl) (Ex.add rfl rfl (by omega)) ?_
      refine WL.u rfl rfl (Wt.plain rfl) (Ex.assign rfl) ?_
      refine WL.last ?_
      refine WN.round (j + 1) (by exact ⟨rfl, rfl, rfl, rfl, rfl, rfl, rfl, congrArg (fun x : Nat => some (vint x)) (show _ = foldT q f h F s c ((lets h F s).take (j + 1)) b by rw [take_snoc hget, foldT_snoc, hbb]; symm; unfold tryW; exact leaveW_prune (by rw [hcst]; omega)), rfl, rfl, rfl, rfl, rfl, trivial⟩) ?_ ?_
      · exact ⟨hH, by omega⟩
      · (try dsimp only); omega
    have hc6' := hc6; try simp only [decide_eq_true_eq, decide_eq_false_iff_not, Bool.not_eq_true', Bool.not_eq_false', Bool.not_eq_true, Bool.not_eq_false] at hc6'
    refine WC.skip ?_
    refine WN.next ?_
    refine WC.seq ?_
    refine WC.region ?_
    refine WL.lit0 Try.underlying96 ty4 rfl (Wt.plain rfl) hH (fun b87 wn hb87 hk87 hH => ?_)
    have ho87 := Own.nil rBool
    refine WL.u rfl rfl (Wt.plain rfl) (Ex.move rfl) ?_
    refine WL.appendS (r := rBool) (m := F) Try.underlying96 ty4 rfl rfl rfl ((hFs.kept hH.keep)) rfl (Wt.plain rfl) hH ho87 (by simp only [List.length_nil]; omega) (by simp only [List.length_nil]; omega) (fun b87 cap87 cur87 wn x87 hk87 hH ho87 => ?_)
    rw [List.nil_append] at ho87
    refine WL.u rfl rfl (Wt.plain rfl) (Ex.assign rfl) ?_
    refine WL.next ?_
    refine WC.seq ?_
    refine WC.region ?_
    refine WL.u rfl rfl (Wt.plain rfl) (Ex.move rfl) ?_
    refine WL.u rfl rfl (Wt.plain rfl) (Ex.move rfl) ?_
    refine WL.u rfl rfl (Wt.plain rfl) (Ex.indexAddr Try.underlying96 ty4 rfl rfl (⟨Int.natCast_nonneg _, Int.ofNat_lt.2 (show s.1 < F.length by rw [hlen]; exact hok.cell)⟩)) ?_
    refine WL.store1 ty4 rfl rfl rfl (Wt.plain rfl) hH (ho87.idx rfl (by rw [hlen]; exact hok.cell)) (by simp) (fun wn hk hH => ?_)
    replace ho87 := ho87.set rfl s.1 true
    refine WL.next ?_
    refine WC.seq ?_
    refine WC.region ?_
    refine WL.u rfl rfl (Wt.plain rfl) (Ex.move rfl) ?_
    refine WL.u rfl rfl (Wt.plain rfl) (Ex.move rfl) ?_
    refine WL.u rfl rfl (Wt.plain rfl) (Ex.indexStr Try.underlying9 rfl rfl (by omega)) ?_
    refine WL.u rfl rfl (Wt.plain rfl) (Ex.move rfl) ?_
    refine WL.call callable102 rfl (Wt.plain rfl) rfl rfl (sl2Bend ((lets h F s).getD j 0) s.2 _ hok.d) ?_
    rintro _ _ ⟨rfl, hw⟩; obtain rfl := hw.symm
    refine WL.u rfl rfl (Wt.plain rfl) (Ex.assign rfl) ?_
    refine WL.next ?_
    refine WC.seq ?_
    have hb4 := bend_lt ((lets h F s).getD j 0) s.2 hok.d
    refine WC.region ?_
    refine WL.u rfl rfl (Wt.plain rfl) (Ex.move rfl) ?_
    refine WL.u rfl rfl (Wt.plain rfl) (Ex.move rfl) ?_
    refine WL.u rfl rfl (Wt.plain rfl) (Ex.move rfl) ?_
    refine WL.call callable115 rfl (Wt.plain rfl) rfl rfl (sl2Step _ _ (bend ((lets h F s).getD j 0) s.2) _ ⟨by omega, by omega⟩ ⟨by omega, by omega⟩ hb4) ?_
    rintro _ _ ⟨rfl, hw⟩; obtain rfl := hw.symm
    refine WL.u rfl rfl (Wt.plain rfl) (Ex.move rfl) ?_
    refine WL.u rfl rfl (Wt.plain rfl) (Ex.extract rfl rfl) ?_
    refine WL.u rfl rfl (Wt.plain rfl) (Ex.extract rfl rfl) ?_
    refine WL.u rfl rfl (Wt.plain rfl) (Ex.assign rfl) ?_
    refine WL.u rfl rfl (Wt.plain rfl) (Ex.assign rfl) ?_
    refine WL.next ?_
    have hP := putG_ok hG s.1 hxo
    have n1 := putG_nR h s.1 ((lets h F s).getD j 0)
    have m1 := putG_nC hG s.1 ((lets h F s).getD j 0)
    have hlx : letter (putG h s.1 ((lets h F s).getD j 0)) s.1 = (lets h F s).getD j 0 := by rw [putG_letter hok.cell, if_pos rfl]
    have hokP : Ok (putG h s.1 ((lets h F s).getD j 0)) s := ⟨by rw [n1, m1]; exact hok.cell, hok.d⟩
    have hinP := step_in hP.sz hokP rfl
    rw [hlx, m1] at hinP
    have hEn := enough_try hG hp hlen he (List.mem_of_getElem? hget)
    have hsb := stepI_bound (i := ((s.1 / nC h : Nat) : Int)) (k := ((s.1 % nC h : Nat) : Int)) (bend ((lets h F s).getD j 0) s.2) (by omega) (by omega)
    refine WC.region ?_
    refine WL.u rfl rfl (Wt.plain rfl) (Ex.move rfl) ?_
    refine WL.u rfl rfl (Wt.plain rfl) (Ex.move rfl) ?_
    refine WL.u rfl rfl (Wt.plain rfl) (Ex.move rfl) ?_
    refine WL.u rfl rfl (Wt.plain rfl) (Ex.move rfl) ?_
    refine WL.u rfl rfl (Wt.plain rfl) (Ex.indexStr Try.underlying9 rfl rfl (by omega)) ?_
    refine WL.call callable116 rfl (Wt.plain rfl) rfl rfl (sl1Put h _ _ s.1 ((lets h F s).getD j 0) _ (hh.kept hH.keep) hG hok.cell) ?_
    rintro _ wn ⟨hC, hN⟩; obtain ⟨b110, cap110, cur110, rfl, hge110, hbb110, ho110⟩ := hN.own; replace hH := hH.push hC hge110 hbb110; clear hC hN
    refine WL.u rfl rfl (Wt.plain rfl) (Ex.move rfl) ?_
    refine WL.u rfl rfl (Wt.plain rfl) (Ex.move rfl) ?_
    refine WL.u rfl rfl (Wt.plain rfl) (Ex.move rfl) ?_
    refine WL.u rfl rfl (Wt.plain rfl) (Ex.move rfl) ?_
    refine WL.u rfl rfl (Wt.plain rfl) (Ex.move rfl) ?_
    refine WL.u rfl rfl (Wt.plain rfl) (Ex.move rfl) ?_
    refine WL.u rfl rfl (Wt.plain rfl) (Ex.move rfl) ?_
    refine WL.call callable84 rfl (Wt.plain rfl) rfl rfl (sl9GoAt ih (putG h s.1 ((lets h F s).getD j 0)) _ _ (F.set s.1 true) _ _ _ s _ _ _ c bb _ hlx (by rw [List.length_set]; rfl) (ho110.slAt hH 0 rfl) (ho87.slAt hH 1 rfl) hP (by unfold ports; rw [n1, m1]; exact hp) (by rw [List.length_set, n1, m1]; exact hlen) hEn (getD_set_self F (by rw [hlen]; exact hok.cell)) (by omega) (by omega) (by rw [m1]; exact hinP.1) (by rw [m1, hlx]; exact hinP.2) hsb.1 hsb.2) ?_
    rintro _ wn ⟨rfl, hC⟩; replace hH := hH.call hC; clear hC
    refine WL.u rfl rfl (Wt.plain rfl) (Ex.assign rfl) ?_
    refine WL.last ?_
    refine WN.normalBlock ?_
    refine WN.next ?_
    refine WC.region ?_
    refine WL.u rfl rfl (Wt.plain rfl) (Ex.move rfl) ?_
    refine WL.u rfl rfl (Wt.plain rfl) (Ex.add rfl rfl (by omega)) ?_
    refine WL.u rfl rfl (Wt.plain rfl) (Ex.assign rfl) ?_
    refine WL.last ?_
    replace hH := hH.first0
    refine WN.round (j + 1) (by exact ⟨rfl, rfl, rfl, rfl, rfl, rfl, rfl, congrArg (fun x : Nat => some (vint x)) (show _ = foldT q f h F s c ((lets h F s).take (j + 1)) b by rw [take_snoc hget, foldT_snoc, hbb]; symm; rw [tryW_goV (by rw [hcst]; omega), hcst] <;> rfl), rfl, rfl, rfl, rfl, rfl, trivial⟩) ?_ ?_
    · exact ⟨hH.first0, by omega⟩
    · (try dsimp only); omega
  have hc4' := hc4; try simp only [decide_eq_true_eq, decide_eq_false_iff_not, Bool.not_eq_true', Bool.not_eq_false', Bool.not_eq_true, Bool.not_eq_false] at hc4'
  generalize hbb : foldT q f h F s c ((lets h F s).take j) b = bb at hfl ⊢
  refine WC.exit ?_
  refine WN.exitThen ?_
  refine WN.exitThen ?_
  refine WN.exitHere ?_
  refine WN.next ?_
  refine WC.seq ?_
  refine WC.region ?_
  refine WL.u rfl rfl (Wt.plain rfl) (Ex.move rfl) ?_
  refine WL.u rfl rfl (Wt.plain rfl) (Ex.assign rfl) ?_
  refine WL.next ?_
  refine WC.ret ?_
  refine WN.body1 rfl rfl ?_
  have hje : j = (lets h F s).length := by omega
  exact ⟨by rw [← hbb, hje, List.take_length], hH.keep⟩


theorem goIH (q p : Nat) : ∀ f, GoIH Try.prog 84 q p f
  | 0 => fun h a cap F aF capF lF s c b w _ _ _ hG hp _ he _ _ => absurd (he.pos hG hp) (by omega)
  | f + 1 => fun h a cap F aF capF lF s c b w hlF hh hF hG hp hlen he hb hc => by
    subst hlF
    exact sl9GoIn h a cap F aF capF s c b q p f w (goIH q p f) hh hF hG hp hlen he hb hc

end Go.Proofs.Ytjejdebmlgjdeaa
