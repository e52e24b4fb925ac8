/- The draws of a size and a pairing; the law on fewest mirrors. -/
import Derived.Test.YtlcihpleljhdpaaMade
import Derived.Test.YtlcihpleljhdpaaAskD
import Derived.Test.YtlcihpleljhdpaaConv
namespace Go.Proofs.Ytlcihpleljhdpaa
set_option maxRecDepth 100000
set_option linter.unusedSimpArgs false
set_option linter.unusedVariables false
open Go Go.RowKit
section
variable {P : Program} {n : Nat} {σ : Env} {w : World} {d : Option Nat} {ty : TypeId} {pos : String} {af : Array Edge} {g : Option (Nat × Bool)} {x y z : Operand} {t e : TypeId}
theorem elem_of' (ht : P.underlying t = some (.slice e)) : P.elem t = e := by simp [Program.elem, ht]
/-- s[i:j] -/
theorem Ex.sliceLH {zz : Value} {by' len cap b off : Nat} {k k' : IntKind} {i j q : Nat} (ht : P.underlying t = some (.slice e)) (he : Ty P e zz 1 by') (hx : ev σ x = some (.slice (some ⟨b, off, none⟩) len cap)) (hy : ev σ y = some (.int k i)) (hz : ev σ z = some (.int k' j)) (hb : i ≤ j ∧ j ≤ cap) (hq : q = j - i) :
    Ex P n ⟨d, .slice t x (some y) (some z) none, ty, pos, af, g⟩ σ w (.slice (some ⟨b, if cap = i then off else off + i, none⟩) q (cap - i)) w := fun ac hac => by
  obtain ⟨i', h1, h2, h3, h4⟩ := he
  have ht' : P.underlying t = some (.slice (P.elem t)) := by rw [elem_of' ht, ht]
  have := run_slice_lh (P := P) (w := w) t (some ⟨b, off, none⟩) len cap ht' k k' (i : Int) (j : Int) (by omega) (by omega) (by omega)
  rw [elem_of' ht] at this
  subst hq
  by_cases hne : cap = i
  · subst hne
    simp [execOp, hac.evl hx, hac.evl hy, hac.evl hz, run_sliceAt_slice (h := ht'), this, sizeOf, typeInfo, h1, sliced, h3, Addr.add_lit]
  · simp [execOp, hac.evl hx, hac.evl hy, hac.evl hz, run_sliceAt_slice (h := ht'), this, sizeOf, typeInfo, h1, sliced, hne, h3, Addr.add_lit]
/-- s[i:] -/
theorem Ex.sliceL {zz : Value} {by' len cap b off : Nat} {k : IntKind} {i q : Nat} (ht : P.underlying t = some (.slice e)) (he : Ty P e zz 1 by') (hx : ev σ x = some (.slice (some ⟨b, off, none⟩) len cap)) (hy : ev σ y = some (.int k i)) (hb : i ≤ len) (hq : q = len - i) :
    Ex P n ⟨d, .slice t x (some y) none none, ty, pos, af, g⟩ σ w (.slice (some ⟨b, if cap = i then off else off + i, none⟩) q (cap - i)) w := fun ac hac => by
  obtain ⟨i', h1, h2, h3, h4⟩ := he
  have ht' : P.underlying t = some (.slice (P.elem t)) := by rw [elem_of' ht, ht]
  have := run_slice_l (P := P) (w := w) t (some ⟨b, off, none⟩) len cap ht' k (i : Int) (by omega) (by omega)
  rw [elem_of' ht] at this
  subst hq
  by_cases hne : cap = i
  · subst hne
    simp [execOp, hac.evl hx, hac.evl hy, run_sliceAt_slice (h := ht'), this, sizeOf, typeInfo, h1, sliced, h3, Addr.add_lit]
  · simp [execOp, hac.evl hx, hac.evl hy, run_sliceAt_slice (h := ht'), this, sizeOf, typeInfo, h1, sliced, hne, h3, Addr.add_lit]
end
theorem Sl.mid {α : Type} {r : Rep α} {w : World} {b off cap : Nat} {l : List α} (h1 : r.sz = 1) (h : Sl r w (some ⟨b, off, none⟩) l) (hc : l.length ≤ cap) (k : Nat) : Sl r w (some ⟨b, if cap = k then off else off + k, none⟩) (l.drop k) := by
  refine ⟨by have := h.1; rw [List.length_drop]; omega, ?_⟩
  by_cases e : cap = k
  · exact .inl (List.drop_eq_nil_of_le (by omega))
  · rw [if_neg e]
    refine .inr ⟨b, off + k, rfl, fun j u hu => ?_⟩
    rcases h.2 with rfl | ⟨b', off', e', hc'⟩
    · simp at hu
    · cases e'
      rw [flat_one h1, List.map_drop, List.getElem?_drop] at hu
      have := hc' (k + j) u (by rw [flat_one h1]; exact hu)
      rw [Nat.add_assoc]; exact this
theorem inP_snoc {P : Nat} {l : List Int} {i : Nat} (h : ∀ x ∈ l, 0 ≤ x ∧ x < (P : Int)) (hi : i < P) : ∀ x ∈ l ++ [(i : Int)], 0 ≤ x ∧ x < (P : Int) := fun x hx => by
  rcases List.mem_append.1 hx with h1 | h1
  · exact h x h1
  · rw [List.mem_singleton.1 h1]; omega
def leftN (l : List Int) (k : Nat) : List Int := ([] ++ (l.take (1 + k)).drop 1) ++ l.drop (1 + k + 1)
theorem leftN_in {P : Nat} {l : List Int} {k : Nat} (h : ∀ x ∈ l, 0 ≤ x ∧ x < (P : Int)) : ∀ x ∈ leftN l k, 0 ≤ x ∧ x < (P : Int) := fun x hx => by
  unfold leftN at hx
  rcases List.mem_append.1 hx with h1 | h1
  · rw [List.nil_append] at h1
    exact h x (List.mem_of_mem_take (List.mem_of_mem_drop h1))
  · exact h x (List.mem_of_mem_drop h1)
theorem leftN_len {l : List Int} {k : Nat} (h : 1 + k < l.length) : (leftN l k).length = l.length - 2 := by
  unfold leftN
  simp only [List.nil_append, List.length_append, List.length_drop, List.length_take]
  omega

theorem sl91Pairs (r : Nat) (a : Option Addr) (l : List UInt8) (cap p0 : Nat) (P : Nat) (w : World) (hr : w.heap[r]? = some (rdo a l.length cap p0)) (hc : Sl rByte w a l) (hca : Off [r] a l) (hl : l.length ≤ 2000) (hp : p0 ≤ 900000) (hP1 : 1 ≤ P) (hP : P ≤ 40) : Fn Try.prog 24 [vptr r 0, vint P] w (fun v w1 => ∃ (out : List Int) (q : Nat), New rInt 3 w w1 v out ∧ out.length = P ∧ Keep [r] w w1 ∧ w1.heap[r]? = some (rdo a l.length cap q) ∧ q ≤ p0 + 100) := by
  refine Fn.enter (n := 66) Try.func24 rfl rfl rfl ?_
  show WC _ _ _ _ [(0, vptr r 0), (1, vint P)] _
  have hH := Hp.at1 hr
  refine WC.seq ?_
  refine WC.region ?_
  refine WL.u rfl rfl (Wt.plain rfl) (Ex.assign rfl) ?_
  refine WL.next ?_
  refine WC.seq ?_
  refine WC.region ?_
  refine WL.u rfl rfl (Wt.plain rfl) (Ex.move rfl) ?_
  refine WL.makeSlice Try.underlying23 ty3 rfl rfl (by omega) (by omega) rfl (Wt.plain rfl) hH (fun b12 wn hb12 hk12 hH => ?_)
  have ho12 := Own.made rInt (z := vint 0) 0 rfl rfl (k := P) (by omega)
  refine WL.u rfl rfl (Wt.plain rfl) (Ex.assign rfl) ?_
  refine WL.next ?_
  refine WC.seq ?_
  refine WC.region ?_
  refine WL.lit0 Try.underlying23 ty3 rfl (Wt.plain rfl) hH (fun b13 wn hb13 hk13 hH => ?_)
  have ho13 := Own.nil rInt
  refine WL.u rfl rfl (Wt.plain rfl) (Ex.assign rfl) ?_
  refine WL.next ?_
  refine WC.seq ?_
  refine WC.seq ?_
  refine WC.region ?_
  refine WL.u rfl rfl (Wt.plain rfl) (Ex.assign rfl) ?_
  refine WL.next ?_
  refine WC.block ?_
  replace hH := hH.f1
  replace hH := hH.f2
  refine WC.loop (ι := Nat × Nat × Nat × (Array Value) × (List Int)) (fun (i, b13, cap13, cur13, left) => [(0, vptr r 0), (1, vint P), (5, vsl b12 P P), (6, vsl b13 left.length cap13), (7, vint i)]) (fun (i, b13, cap13, cur13, left) wn => Hp [r] w wn [(r, rdo a l.length cap p0), (b12, .cells (madeCells (vint 0).cells (P * 1)) 3 (0, 0)), (b13, .cells cur13 3 (0, 0))] ∧ Own rInt cur13 cap13 left ∧ left.length = i ∧ (∀ x ∈ left, 0 ≤ x ∧ x < (P : Int)) ∧ i ≤ P) (fun (i, b13, cap13, cur13, left) => P - i) ((0, b13, 0, #[], [])) (by exact ⟨rfl, rfl, rfl, rfl, rfl, trivial⟩) ?_ ?_
  · exact ⟨hH, ho13, rfl, by simp, Nat.zero_le _⟩
  rintro ⟨i, b13, cap13, cur13, left⟩ wn ⟨hH, ho13, hll, hlf, hi⟩
  intro mu0 hmu; try dsimp only at hmu
  show WC _ _ _ _ [(0, vptr r 0), (1, vint P), (5, vsl b12 P P), (6, vsl b13 left.length cap13), (7, vint i)] _
  refine WC.seq ?_
  refine WC.seq ?_
  refine WC.region ?_
  refine WL.u rfl rfl (Wt.plain rfl) (Ex.move rfl) ?_
  refine WL.u rfl rfl (Wt.plain rfl) (Ex.move rfl) ?_
  refine WL.u rfl rfl (Wt.plain rfl) (Ex.lss rfl rfl) ?_
  refine WL.next ?_
  refine WC.cond rfl (fun hc1 => ?_) (fun hc1 => ?_)
  · have hc1' := hc1; try simp only [decide_eq_true_eq, decide_eq_false_iff_not, Bool.not_eq_true', Bool.not_eq_false', Bool.not_eq_true, Bool.not_eq_false] at hc1'
    have hlt : i < P := by omega
    refine WC.skip ?_
    refine WN.next ?_
    refine WC.seq ?_
    refine WC.block ?_
    refine WC.region ?_
    refine WL.u rfl rfl (Wt.plain rfl) (Ex.move rfl) ?_
    refine WL.u rfl rfl (Wt.plain rfl) (Ex.move rfl) ?_
    replace hH := hH.f2
    refine WL.append1 (r := rInt) (u := (i : Int)) Try.underlying23 ty3 rfl rfl (fun _ => rfl) (fun _ => rfl) rfl rfl (Wt.plain rfl) (fun _ => (Wt.plain rfl)) hH ho13 rfl (by omega) (by omega) (fun b13 cap13 cur13 wn x13 hb13 hk13 hH ho13 => ?_)
    refine WL.u rfl rfl (Wt.plain rfl) (Ex.assign rfl) ?_
    refine WL.last ?_
    refine WN.normalBlock ?_
    refine WN.next ?_
    refine WC.region ?_
    refine WL.u rfl rfl (Wt.plain rfl) (Ex.move rfl) ?_
    refine WL.u rfl rfl (Wt.plain rfl) (Ex.add rfl rfl (by omega)) ?_
    refine WL.u rfl rfl (Wt.plain rfl) (Ex.assign rfl) ?_
    refine WL.last ?_
    replace hH := hH.f2
    replace hH := hH.f2
    refine WN.round (i + 1, b13, cap13, cur13, left ++ [(i : Int)]) (by exact ⟨rfl, rfl, rfl, rfl, rfl, trivial⟩) ?_ ?_
    · exact ⟨hH, ho13, by simp [hll], inP_snoc hlf (by omega), by omega⟩
    · (try dsimp only); omega
  have hc1' := hc1; try simp only [decide_eq_true_eq, decide_eq_false_iff_not, Bool.not_eq_true', Bool.not_eq_false', Bool.not_eq_true, Bool.not_eq_false] at hc1'
  have hie : i = P := by omega
  refine WC.exit ?_
  refine WN.exitThen ?_
  refine WN.exitThen ?_
  refine WN.exitHere ?_
  refine WN.next ?_
  refine WC.seq ?_
  refine WC.block ?_
  replace hH := hH.f2
  replace hH := hH.f2
  replace hH := hH.f2
  refine WC.loop (ι := Nat × (Array Value) × (List Int) × Nat × Nat × (Array Value) × (List Int)) (fun (p, cur12, out, b13, cap13, cur13, left) => [(0, vptr r 0), (1, vint P), (5, vsl b12 P P), (6, vsl b13 left.length cap13)]) (fun (p, cur12, out, b13, cap13, cur13, left) wn => Hp [r] w wn [(r, rdo a l.length cap p), (b12, .cells cur12 3 (0, 0)), (b13, .cells cur13 3 (0, 0))] ∧ Own rInt cur12 P out ∧ out.length = P ∧ Own rInt cur13 cap13 left ∧ (∀ x ∈ left, 0 ≤ x ∧ x < (P : Int)) ∧ p + left.length ≤ p0 + P ∧ p0 ≤ p) (fun (p, cur12, out, b13, cap13, cur13, left) => left.length) ((p0, madeCells (vint 0).cells (P * 1), List.replicate P 0, b13, cap13, cur13, left)) (by exact ⟨rfl, rfl, rfl, rfl, trivial⟩) ?_ ?_
  · exact ⟨hH, ho12, by simp, ho13, hlf, by omega, by omega⟩
  rintro ⟨p, cur12, out, b13, cap13, cur13, left⟩ wn ⟨hH, ho12, hol, ho13, hlf, hp, hp0⟩
  intro mu0 hmu; try dsimp only at hmu
  show WC _ _ _ _ [(0, vptr r 0), (1, vint P), (5, vsl b12 P P), (6, vsl b13 left.length cap13)] _
  refine WC.seq ?_
  refine WC.seq ?_
  refine WC.region ?_
  refine WL.u rfl rfl (Wt.plain rfl) (Ex.move rfl) ?_
  refine WL.u rfl rfl (Wt.plain rfl) (Ex.lenSl Try.underlying23 rfl) ?_
  refine WL.u rfl rfl (Wt.plain rfl) (Ex.gtr rfl rfl) ?_
  refine WL.next ?_
  refine WC.cond rfl (fun hc2 => ?_) (fun hc2 => ?_)
  · have hc2' := hc2; try simp only [decide_eq_true_eq, decide_eq_false_iff_not, Bool.not_eq_true', Bool.not_eq_false', Bool.not_eq_true, Bool.not_eq_false] at hc2'
    have hlt : 1 < left.length := by omega
    refine WC.skip ?_
    refine WN.next ?_
    refine WC.block ?_
    refine WC.seq ?_
    refine WC.region ?_
    refine WL.u rfl rfl (Wt.plain rfl) (Ex.move rfl) ?_
    refine WL.u rfl rfl (Wt.plain rfl) (Ex.move rfl) ?_
    refine WL.u rfl rfl (Wt.plain rfl) (Ex.lenSl Try.underlying23 rfl) ?_
    refine WL.u rfl rfl (Wt.plain rfl) ((Ex.sub rfl rfl (by omega)).to (congrArg (Value.int IntKind.i64) (show _ = ((left.length - 1 : Nat) : Int) by omega))) ?_
    refine WL.call callable23 rfl (Wt.plain rfl) rfl rfl (spick _ _ _ _ _ (left.length - 1) _ (hH.at 0 rfl) (hc.keepO hH.keep hca) hca hl (by omega) (by omega)) ?_
    rintro _ wn ⟨k30, rfl, hk30, hKK, ho⟩; replace hH := hH.turn hKK ho; clear hKK ho
    refine WL.u rfl rfl (Wt.plain rfl) ((Ex.add rfl rfl (by omega)).to (congrArg (Value.int IntKind.i64) (show _ = ((1 + k30 : Nat) : Int) by omega))) ?_
    refine WL.u rfl rfl (Wt.plain rfl) (Ex.assign rfl) ?_
    refine WL.next ?_
    refine WC.seq ?_
    have hga := getD_get left 0 0 (by omega)
    have hgb := getD_get left (1 + k30) 0 (by omega)
    have hma := hlf _ (List.mem_of_getElem? hga)
    have hmb := hlf _ (List.mem_of_getElem? hgb)
    refine WC.region ?_
    refine WL.u rfl rfl (Wt.plain rfl) (Ex.move rfl) ?_
    refine WL.u rfl rfl (Wt.plain rfl) (Ex.indexAddr Try.underlying23 ty3 rfl rfl (by omega)) ?_
    replace hH := hH.f2
    refine WL.u rfl rfl (Wt.plain rfl) (Ex.loadHp flat3 rfl hH (ho13.get rfl (hga))) ?_
    refine WL.u rfl rfl (Wt.plain rfl) (Ex.assign rfl) ?_
    refine WL.next ?_
    refine WC.seq ?_
    refine WC.region ?_
    refine WL.u rfl rfl (Wt.plain rfl) (Ex.move rfl) ?_
    refine WL.u rfl rfl (Wt.plain rfl) (Ex.move rfl) ?_
    refine WL.u rfl rfl (Wt.plain rfl) (Ex.indexAddr Try.underlying23 ty3 rfl rfl (by omega)) ?_
    refine WL.u rfl rfl (Wt.plain rfl) (Ex.loadHp flat3 rfl hH (ho13.get rfl (hgb))) ?_
    refine WL.u rfl rfl (Wt.plain rfl) (Ex.assign rfl) ?_
    refine WL.next ?_
    refine WC.seq ?_
    obtain ⟨xa, hxa⟩ : ∃ k : Nat, left.getD 0 0 = (k : Int) := ⟨_, (Int.toNat_of_nonneg hma.1).symm⟩
    obtain ⟨xb, hxb⟩ : ∃ k : Nat, left.getD (1 + k30) 0 = (k : Int) := ⟨_, (Int.toNat_of_nonneg hmb.1).symm⟩
    rw [hxa] at hma
    rw [hxb] at hmb
    rw [hxa, hxb]
    refine WC.region ?_
    refine WL.u rfl rfl (Wt.plain rfl) (Ex.move rfl) ?_
    refine WL.u rfl rfl (Wt.plain rfl) (Ex.move rfl) ?_
    refine WL.u rfl rfl (Wt.plain rfl) (Ex.move rfl) ?_
    refine WL.u rfl rfl (Wt.plain rfl) (Ex.indexAddr Try.underlying23 ty3 rfl rfl (by omega)) ?_
    replace hH := hH.f2
    refine WL.store1 ty3 rfl rfl rfl (Wt.plain rfl) hH (ho12.idx rfl (by omega)) (by simp) (fun wn hk hH => ?_)
    replace ho12 := ho12.set rfl xa (xb : Int)
    refine WL.next ?_
    refine WC.seq ?_
    refine WC.region ?_
    refine WL.u rfl rfl (Wt.plain rfl) (Ex.move rfl) ?_
    refine WL.u rfl rfl (Wt.plain rfl) (Ex.move rfl) ?_
    refine WL.u rfl rfl (Wt.plain rfl) (Ex.move rfl) ?_
    refine WL.u rfl rfl (Wt.plain rfl) (Ex.indexAddr Try.underlying23 ty3 rfl rfl (by omega)) ?_
    refine WL.store1 ty3 rfl rfl rfl (Wt.plain rfl) hH (ho12.idx rfl (by rw [List.length_set]; omega)) (by simp) (fun wn hk hH => ?_)
    replace ho12 := ho12.set rfl xb (xa : Int)
    refine WL.next ?_
    have hle13 := ho13.le
    have hl40 : left.length ≤ 40 := by omega
    have hQ := hH
    refine WC.plan (Keep [] _) [(1, true), (2, true), (3, true), (5, true), (6, true), (7, true), (8, true), (0, false), (4, false), (9, false), (10, true)] rfl (by kernel_rfl) (Keep.drew _ _) (fun hR => ?_)
    replace hH := hH.drew
    refine WPl.q rfl rfl rfl (Wt.plain rfl) (fun w hC => Ex.move rfl) ?_
    refine WPl.q rfl rfl rfl (Wt.plain rfl) (fun w hC => Ex.move rfl) ?_
    refine WPl.q rfl rfl rfl (Wt.plain rfl) (fun w hC => Ex.sliceLH (q := ((left.take (1 + k30)).drop 1).length) (i := 1) (j := 1 + k30) Try.underlying23 ty3 rfl rfl rfl (by omega) (by rw [List.length_drop, List.length_take]; omega)) ?_
    refine WPl.q rfl rfl rfl (Wt.plain rfl) (fun w hC => Ex.move rfl) ?_
    refine WPl.q rfl rfl rfl (Wt.plain rfl) (fun w hC => Ex.move rfl) ?_
    refine WPl.q rfl rfl rfl (Wt.plain rfl) (fun w hC => (Ex.add rfl rfl (by omega)).to (congrArg (Value.int IntKind.i64) (show _ = ((1 + k30 + 1 : Nat) : Int) by omega))) ?_
    refine WPl.q rfl rfl rfl (Wt.plain rfl) (fun w hC => Ex.sliceL (q := (left.drop (1 + k30 + 1)).length) (i := 1 + k30 + 1) Try.underlying23 ty3 rfl rfl (by omega) (by rw [List.length_drop])) ?_
    refine WPl.f rfl ?_
    have hsR47 := hR.size
    refine WL.lit0 Try.underlying23 ty3 rfl (Wt.plain rfl) hH (fun b47 wn hb47 hk47 hH => ?_)
    replace hR := hR.trans (hk47.nil)
    have ho47 := Own.nil rInt
    refine WPl.b hR ?_
    refine WPl.f rfl ?_
    have hsR51 := hR.size
    refine WL.appendS (r := rInt) (m := ((left.take (1 + k30)).drop 1)) Try.underlying23 ty3 rfl rfl rfl ((((ho13.slAt hH 2 rfl)).take (1 + k30)).mid rfl (by rw [List.length_take]; omega) 1) rfl (Wt.plain rfl) hH ho47 (by simp only [List.length_drop, List.length_take, List.length_nil]; omega) (by simp only [List.length_drop, List.length_take, List.length_nil]; omega) (fun b47 cap47 cur47 wn x47 hk47 hH ho47 => ?_)
    replace hR := hR.shrink hk47 (by intro x hx; rw [List.mem_singleton.1 hx]; omega)
    refine WPl.b hR ?_
    refine WPl.f rfl ?_
    have hsR56 := hR.size
    refine WL.appendS (r := rInt) (m := (left.drop (1 + k30 + 1))) Try.underlying23 ty3 rfl rfl rfl (((ho13.slAt hH 2 rfl)).mid rfl (by omega) (1 + k30 + 1)) rfl (Wt.plain rfl) hH ho47 (by simp only [List.length_append, List.length_drop, List.length_take, List.length_nil]; omega) (by simp only [List.length_append, List.length_drop, List.length_take, List.length_nil]; omega) (fun b47 cap47 cur47 wn x47 hk47 hH ho47 => ?_)
    replace hR := hR.shrink hk47 (by intro x hx; rw [List.mem_singleton.1 hx]; omega)
    refine WPl.b hR ?_
    refine WPl.q rfl rfl rfl (Wt.plain rfl) (fun w hC => Ex.assign rfl) ?_
    refine WPl.nil (fun hC => ?_); clear hC
    refine WN.normalBlock ?_
    replace hH := hH.f1
    replace hH := hH.f3
    replace hH := hH.first3
    refine WN.round (p + 1, (cur12.setIfInBounds (0 + (xa : Int).toNat * 1) (rInt.val (xb : Int))).setIfInBounds (0 + (xb : Int).toNat * 1) (rInt.val (xa : Int)), (out.set xa (xb : Int)).set xb (xa : Int), b47, cap47, cur47, leftN left k30) (by exact ⟨rfl, rfl, rfl, rfl, trivial⟩) ?_ ?_
    · exact ⟨hH, ho12, by rw [List.length_set, List.length_set]; exact hol, ho47, leftN_in hlf, by rw [leftN_len (by omega)]; omega, by omega⟩
    · (try dsimp only); rw [leftN_len (by omega)]; omega
  have hc2' := hc2; try simp only [decide_eq_true_eq, decide_eq_false_iff_not, Bool.not_eq_true', Bool.not_eq_false', Bool.not_eq_true, Bool.not_eq_false] at hc2'
  refine WC.exit ?_
  refine WN.exitThen ?_
  refine WN.exitThen ?_
  refine WN.exitHere ?_
  refine WN.next ?_
  refine WC.seq ?_
  refine WC.seq ?_
  refine WC.region ?_
  refine WL.u rfl rfl (Wt.plain rfl) (Ex.move rfl) ?_
  refine WL.call callable23 rfl (Wt.plain rfl) rfl rfl (spick _ _ _ _ _ 30 _ (hH.at 0 rfl) (hc.keepO hH.keep hca) hca hl (by omega) (by omega)) ?_
  rintro _ wn ⟨k58, rfl, hk58, hKK, ho⟩; replace hH := hH.turn hKK ho; clear hKK ho
  refine WL.u rfl rfl (Wt.plain rfl) (Ex.eql rfl rfl) ?_
  refine WL.next ?_
  refine WC.cond rfl (fun hc3 => ?_) (fun hc3 => ?_)
  · have hc3' := hc3; try simp only [decide_eq_true_eq, decide_eq_false_iff_not, Bool.not_eq_true', Bool.not_eq_false', Bool.not_eq_true, Bool.not_eq_false] at hc3'
    refine WC.region ?_
    refine WL.u rfl rfl (Wt.plain rfl) (Ex.move rfl) ?_
    refine WL.u rfl rfl (Wt.plain rfl) (Ex.move rfl) ?_
    refine WL.u rfl rfl (Wt.plain rfl) (Ex.move rfl) ?_
    refine WL.call callable23 rfl (Wt.plain rfl) rfl rfl (spick _ _ _ _ _ P _ (hH.at 0 rfl) (hc.keepO hH.keep hca) hca hl (by omega) (by omega)) ?_
    rintro _ wn ⟨k63, rfl, hk63, hKK, ho⟩; replace hH := hH.turn hKK ho; clear hKK ho
    refine WL.u rfl rfl (Wt.plain rfl) (Ex.indexAddr Try.underlying23 ty3 rfl rfl (by omega)) ?_
    replace hH := hH.f1
    refine WL.store1 ty3 rfl rfl rfl (Wt.plain rfl) hH (ho12.idx (i := 0) rfl (by omega)) (by simp) (fun wn hk hH => ?_)
    replace ho12 := ho12.set rfl 0 (k63 : Int)
    refine WL.next ?_
    refine WC.seq ?_
    refine WC.region ?_
    refine WL.u rfl rfl (Wt.plain rfl) (Ex.move rfl) ?_
    refine WL.u rfl rfl (Wt.plain rfl) (Ex.assign rfl) ?_
    refine WL.next ?_
    refine WC.ret ?_
    refine WN.body1 rfl rfl ?_
    have hN := New.of (hH.front 0 rfl) ho12 (hH.base1 0 1 rfl rfl rfl rfl)
    rw [List.length_set, hol] at hN
    exact ⟨_, _, hN, by rw [List.length_set, hol], hH.keep, (hH.at 1 rfl), by omega⟩
  have hc3' := hc3; try simp only [decide_eq_true_eq, decide_eq_false_iff_not, Bool.not_eq_true', Bool.not_eq_false', Bool.not_eq_true, Bool.not_eq_false] at hc3'
  refine WC.skip ?_
  refine WN.next ?_
  refine WC.seq ?_
  refine WC.region ?_
  refine WL.u rfl rfl (Wt.plain rfl) (Ex.move rfl) ?_
  refine WL.u rfl rfl (Wt.plain rfl) (Ex.assign rfl) ?_
  refine WL.next ?_
  refine WC.ret ?_
  refine WN.body1 rfl rfl ?_
  have hN := New.of (hH.front 1 rfl) ho12 (hH.base1 1 0 rfl rfl rfl rfl)
  rw [hol] at hN
  exact ⟨_, _, hN, hol, hH.keep, (hH.at 0 rfl), by omega⟩

theorem sl92Small (r : Nat) (a : Option Addr) (l : List UInt8) (cap p0 : Nat) (w : World) (hr : w.heap[r]? = some (rdo a l.length cap p0)) (hc : Sl rByte w a l) (hca : Off [r] a l) (hl : l.length ≤ 2000) (hp : p0 ≤ 900000) : Fn Try.prog 22 [vptr r 0] w (fun v w1 => ∃ (n m q : Nat), v = .tuple #[vint n, vint m] ∧ Keep [r] w w1 ∧ w1.heap[r]? = some (rdo a l.length cap q) ∧ (1 ≤ n ∧ n ≤ 3 ∧ 1 ≤ m ∧ m ≤ 3) ∧ q ≤ p0 + 10) := by
  refine Fn.enter (n := 26) Try.func22 rfl rfl rfl ?_
  show WC _ _ _ _ [(0, vptr r 0)] _
  have hH := Hp.at1 hr
  refine WC.seq ?_
  refine WC.region ?_
  refine WL.u rfl rfl (Wt.plain rfl) (Ex.assign rfl) ?_
  refine WL.u rfl rfl (Wt.plain rfl) (Ex.assign rfl) ?_
  refine WL.next ?_
  refine WC.seq ?_
  refine WC.region ?_
  refine WL.u rfl rfl (Wt.plain rfl) (Ex.move rfl) ?_
  refine WL.call callable23 rfl (Wt.plain rfl) rfl rfl (spick _ _ _ _ _ 3 _ (hH.at 0 rfl) (hc.keepO hH.keep hca) hca hl (by omega) (by omega)) ?_
  rintro _ wn ⟨k7, rfl, hk7, hKK, ho⟩; replace hH := hH.turn hKK ho; clear hKK ho
  refine WL.u rfl rfl (Wt.plain rfl) ((Ex.add rfl rfl (by omega)).to (congrArg (Value.int IntKind.i64) (show _ = ((1 + k7 : Nat) : Int) by omega))) ?_
  refine WL.u rfl rfl (Wt.plain rfl) (Ex.assign rfl) ?_
  refine WL.next ?_
  refine WC.seq ?_
  refine WC.region ?_
  refine WL.u rfl rfl (Wt.plain rfl) (Ex.move rfl) ?_
  refine WL.call callable23 rfl (Wt.plain rfl) rfl rfl (spick _ _ _ _ _ 3 _ (hH.at 0 rfl) (hc.keepO hH.keep hca) hca hl (by omega) (by omega)) ?_
  rintro _ wn ⟨k10, rfl, hk10, hKK, ho⟩; replace hH := hH.turn hKK ho; clear hKK ho
  refine WL.u rfl rfl (Wt.plain rfl) ((Ex.add rfl rfl (by omega)).to (congrArg (Value.int IntKind.i64) (show _ = ((1 + k10 : Nat) : Int) by omega))) ?_
  refine WL.u rfl rfl (Wt.plain rfl) (Ex.assign rfl) ?_
  refine WL.next ?_
  refine WC.seq ?_
  refine WC.seq ?_
  refine WC.region ?_
  refine WL.u rfl rfl (Wt.plain rfl) (Ex.move rfl) ?_
  refine WL.u rfl rfl (Wt.plain rfl) (Ex.eql rfl rfl) ?_
  refine WL.u rfl rfl (Wt.plain rfl) (Ex.move rfl) ?_
  refine WL.split (t := 14) rfl (fun hg3_2 => ?_) (fun hg3_2 => ?_)
  · have hg3_2' := hg3_2; try simp only [decide_eq_true_eq, decide_eq_false_iff_not, Bool.not_eq_true', Bool.not_eq_false', Bool.not_eq_true, Bool.not_eq_false] at hg3_2'
    refine WL.u rfl rfl (Wt.guard' rfl rfl rfl hg3_2 rfl) (Ex.move rfl) ?_
    refine WL.u rfl rfl (Wt.guard' rfl rfl rfl hg3_2 rfl) (Ex.eql rfl rfl) ?_
    refine WL.u rfl rfl (Wt.plain rfl) (Ex.pickT rfl hg3_2 rfl) ?_
    refine WL.next ?_
    refine WC.cond rfl (fun hc1 => ?_) (fun hc1 => ?_)
    · have hc1' := hc1; try simp only [decide_eq_true_eq, decide_eq_false_iff_not, Bool.not_eq_true', Bool.not_eq_false', Bool.not_eq_true, Bool.not_eq_false] at hc1'
      refine WC.seq ?_
      refine WC.region ?_
      refine WL.u rfl rfl (Wt.plain rfl) (Ex.move rfl) ?_
      refine WL.call callable23 rfl (Wt.plain rfl) rfl rfl (spick _ _ _ _ _ 2 _ (hH.at 0 rfl) (hc.keepO hH.keep hca) hca hl (by omega) (by omega)) ?_
      rintro _ wn ⟨k19, rfl, hk19, hKK, ho⟩; replace hH := hH.turn hKK ho; clear hKK ho
      refine WL.u rfl rfl (Wt.plain rfl) ((Ex.sub rfl rfl (by omega)).to (congrArg (Value.int IntKind.i64) (show _ = ((2 - k19 : Nat) : Int) by omega))) ?_
      refine WL.u rfl rfl (Wt.plain rfl) (Ex.assign rfl) ?_
      refine WL.next ?_
      refine WC.seq ?_
      refine WC.region ?_
      refine WL.u rfl rfl (Wt.plain rfl) (Ex.move rfl) ?_
      refine WL.call callable23 rfl (Wt.plain rfl) rfl rfl (spick _ _ _ _ _ 8 _ (hH.at 0 rfl) (hc.keepO hH.keep hca) hca hl (by omega) (by omega)) ?_
      rintro _ wn ⟨k22, rfl, hk22, hKK, ho⟩; replace hH := hH.turn hKK ho; clear hKK ho
      refine WL.u rfl rfl (Wt.plain rfl) (Ex.eql rfl rfl) ?_
      refine WL.next ?_
      refine WC.cond rfl (fun hc2 => ?_) (fun hc2 => ?_)
      · have hc2' := hc2; try simp only [decide_eq_true_eq, decide_eq_false_iff_not, Bool.not_eq_true', Bool.not_eq_false', Bool.not_eq_true, Bool.not_eq_false] at hc2'
        refine WC.region ?_
        refine WL.u rfl rfl (Wt.plain rfl) (Ex.assign rfl) ?_
        refine WL.next ?_
        refine WC.seq ?_
        refine WC.region ?_
        refine WL.u rfl rfl (Wt.plain rfl) (Ex.move rfl) ?_
        refine WL.u rfl rfl (Wt.plain rfl) (Ex.move rfl) ?_
        refine WL.u rfl rfl (Wt.plain rfl) (Ex.assign rfl) ?_
        refine WL.u rfl rfl (Wt.plain rfl) (Ex.assign rfl) ?_
        refine WL.next ?_
        refine WC.ret ?_
        refine WN.body2 rfl rfl rfl ?_
        exact ⟨1 + k7, 3, _, rfl, hH.keep, (hH.at 0 rfl), by omega, by omega⟩
      have hc2' := hc2; try simp only [decide_eq_true_eq, decide_eq_false_iff_not, Bool.not_eq_true', Bool.not_eq_false', Bool.not_eq_true, Bool.not_eq_false] at hc2'
      refine WC.skip ?_
      refine WN.next ?_
      refine WC.seq ?_
      refine WC.region ?_
      refine WL.u rfl rfl (Wt.plain rfl) (Ex.move rfl) ?_
      refine WL.u rfl rfl (Wt.plain rfl) (Ex.move rfl) ?_
      refine WL.u rfl rfl (Wt.plain rfl) (Ex.assign rfl) ?_
      refine WL.u rfl rfl (Wt.plain rfl) (Ex.assign rfl) ?_
      refine WL.next ?_
      refine WC.ret ?_
      refine WN.body2 rfl rfl rfl ?_
      exact ⟨1 + k7, 2 - k19, _, rfl, hH.keep, (hH.at 0 rfl), by omega, by omega⟩
    have hc1' := hc1; try simp only [decide_eq_true_eq, decide_eq_false_iff_not, Bool.not_eq_true', Bool.not_eq_false', Bool.not_eq_true, Bool.not_eq_false] at hc1'
    refine WC.skip ?_
    refine WN.next ?_
    refine WC.seq ?_
    refine WC.region ?_
    refine WL.u rfl rfl (Wt.plain rfl) (Ex.move rfl) ?_
    refine WL.u rfl rfl (Wt.plain rfl) (Ex.move rfl) ?_
    refine WL.u rfl rfl (Wt.plain rfl) (Ex.assign rfl) ?_
    refine WL.u rfl rfl (Wt.plain rfl) (Ex.assign rfl) ?_
    refine WL.next ?_
    refine WC.ret ?_
    refine WN.body2 rfl rfl rfl ?_
    exact ⟨1 + k7, 1 + k10, _, rfl, hH.keep, (hH.at 0 rfl), by omega, by omega⟩
  have hg3_2' := hg3_2; try simp only [decide_eq_true_eq, decide_eq_false_iff_not, Bool.not_eq_true', Bool.not_eq_false', Bool.not_eq_true, Bool.not_eq_false] at hg3_2'
  refine WL.pass rfl rfl (Wt.guard' rfl rfl rfl hg3_2 rfl) ?_
  refine WL.pass rfl rfl (Wt.guard' rfl rfl rfl hg3_2 rfl) ?_
  refine WL.u rfl rfl (Wt.plain rfl) (Ex.pickF rfl hg3_2 rfl) ?_
  refine WL.next ?_
  refine WC.condF rfl rfl ?_
  refine WC.skip ?_
  refine WN.next ?_
  refine WC.seq ?_
  refine WC.region ?_
  refine WL.u rfl rfl (Wt.plain rfl) (Ex.move rfl) ?_
  refine WL.u rfl rfl (Wt.plain rfl) (Ex.move rfl) ?_
  refine WL.u rfl rfl (Wt.plain rfl) (Ex.assign rfl) ?_
  refine WL.u rfl rfl (Wt.plain rfl) (Ex.assign rfl) ?_
  refine WL.next ?_
  refine WC.ret ?_
  refine WN.body2 rfl rfl rfl ?_
  exact ⟨1 + k7, 1 + k10, _, rfl, hH.keep, (hH.at 0 rfl), by omega, by omega⟩

theorem sl92Made (a : Option Addr) (l : List UInt8) (cap : Nat) (w : World) (hc : Sl rByte w a l) (hcap : l.length ≤ cap) : Fn Try.prog 9 [.slice a l.length cap] w (fun v w1 => ∃ (n m : Nat) (q : List Int) (x : Value), v = .tuple #[vint n, vint m, x] ∧ Keep [] w w1 ∧ New rInt 3 w w1 x q ∧ (1 ≤ n ∧ n ≤ 3 ∧ 1 ≤ m ∧ m ≤ 3)) := by
  refine Fn.enter (n := 32) Try.func9 rfl rfl rfl ?_
  show WC _ _ _ _ [(0, .slice a l.length cap)] _
  have hH := Hp.start [] w
  replace hc := hc.take 2000
  have hl := List.length_take_le 2000 l
  refine WC.seq ?_
  refine WC.region ?_
  refine WL.u rfl rfl (Wt.plain rfl) (Ex.assign rfl) ?_
  refine WL.u rfl rfl (Wt.plain rfl) (Ex.assign rfl) ?_
  refine WL.u rfl rfl (Wt.plain rfl) (Ex.assign rfl) ?_
  refine WL.next ?_
  refine WC.seq ?_
  refine WC.region ?_
  refine WL.u rfl rfl (Wt.plain rfl) (Ex.move rfl) ?_
  refine WL.call callable21 rfl (Wt.plain rfl) rfl rfl (sl6Open _ _ _ _ hcap) ?_
  rintro _ wn ⟨r, rfl, hrn, hC, hro⟩; have hca := (hc.kept hH.keep).offNew hrn; replace hH := hH.push hC hrn hro; clear hC hro
  refine WL.u rfl rfl (Wt.plain rfl) (Ex.assign rfl) ?_
  refine WL.next ?_
  refine WC.seq ?_
  refine WC.region ?_
  refine WL.u rfl rfl (Wt.plain rfl) (Ex.move rfl) ?_
  refine WL.call callable22 rfl (Wt.plain rfl) rfl rfl (sl92Small _ _ _ _ _  _ (hH.at 0 rfl) (hc.kept hH.keep) hca hl (by omega) ) ?_
  rintro _ wn ⟨n, m, q, rfl, hKK, ho, hsz, hq⟩; replace hH := hH.turn hKK ho; clear hKK ho
  refine WL.u rfl rfl (Wt.plain rfl) (Ex.move rfl) ?_
  refine WL.u rfl rfl (Wt.plain rfl) (Ex.extract rfl rfl) ?_
  refine WL.u rfl rfl (Wt.plain rfl) (Ex.extract rfl rfl) ?_
  refine WL.u rfl rfl (Wt.plain rfl) (Ex.assign rfl) ?_
  refine WL.u rfl rfl (Wt.plain rfl) (Ex.assign rfl) ?_
  refine WL.next ?_
  refine WC.seq ?_
  refine WC.seq ?_
  refine WC.region ?_
  refine WL.u rfl rfl (Wt.plain rfl) (Ex.move rfl) ?_
  refine WL.call callable23 rfl (Wt.plain rfl) rfl rfl (spick _ _ _ _ _ 4 _ (hH.at 0 rfl) (hc.kept hH.keep) hca hl (by omega) (by omega)) ?_
  rintro _ wn ⟨k16, rfl, hk16, hKK, ho⟩; replace hH := hH.turn hKK ho; clear hKK ho
  refine WL.u rfl rfl (Wt.plain rfl) (Ex.eql rfl rfl) ?_
  refine WL.next ?_
  refine WC.cond rfl (fun hc1 => ?_) (fun hc1 => ?_)
  · have hc1' := hc1; try simp only [decide_eq_true_eq, decide_eq_false_iff_not, Bool.not_eq_true', Bool.not_eq_false', Bool.not_eq_true, Bool.not_eq_false] at hc1'
    refine WC.seq ?_
    refine WC.region ?_
    refine WL.u rfl rfl (Wt.plain rfl) (Ex.move rfl) ?_
    refine WL.u rfl rfl (Wt.plain rfl) (Ex.move rfl) ?_
    refine WL.u rfl rfl (Wt.plain rfl) (Ex.move rfl) ?_
    refine WL.u rfl rfl (Wt.plain rfl) (Ex.move rfl) ?_
    refine WL.u rfl rfl (Wt.plain rfl) (Ex.move rfl) ?_
    refine WL.call callable25 rfl (Wt.plain rfl) rfl rfl (sl2Ports n m _ (by omega) (by omega)) ?_
    rintro _ _ ⟨hv, hw⟩; obtain rfl := hw.symm; obtain rfl := hv.trans (congrArg (Value.int IntKind.i64) (show _ = ((2 * (n + m) : Nat) : Int) by omega))
    refine WL.call callable24 rfl (Wt.plain rfl) rfl rfl (sl91Pairs _ _ _ _ _ (2 * (n + m)) _ (hH.at 0 rfl) (hc.kept hH.keep) hca hl (by omega) (by omega) (by omega)) ?_
    rintro _ wn ⟨q1, q2, hN, hql, hKK, ho, hq2⟩; obtain ⟨b24, cap24, cur24, rfl, hge24, hbb24, ho24⟩ := hN.own; replace hH := hH.turnPush hKK ho hge24 hbb24; clear hKK ho hN
    refine WL.u rfl rfl (Wt.plain rfl) (Ex.assign rfl) ?_
    refine WL.u rfl rfl (Wt.plain rfl) (Ex.assign rfl) ?_
    refine WL.u rfl rfl (Wt.plain rfl) (Ex.assign rfl) ?_
    refine WL.next ?_
    refine WC.ret ?_
    refine WN.retThen ?_
    refine WN.body3 rfl rfl rfl rfl ?_
    exact ⟨n, m, q1, _, rfl, hH.keep, New.of (hH.front 0 rfl) ho24 (hH.base 0 rfl), hsz⟩
  have hc1' := hc1; try simp only [decide_eq_true_eq, decide_eq_false_iff_not, Bool.not_eq_true', Bool.not_eq_false', Bool.not_eq_true, Bool.not_eq_false] at hc1'
  refine WC.skip ?_
  refine WN.next ?_
  refine WC.seq ?_
  refine WC.region ?_
  refine WL.u rfl rfl (Wt.plain rfl) (Ex.move rfl) ?_
  refine WL.u rfl rfl (Wt.plain rfl) (Ex.move rfl) ?_
  refine WL.u rfl rfl (Wt.plain rfl) (Ex.move rfl) ?_
  refine WL.u rfl rfl (Wt.plain rfl) (Ex.move rfl) ?_
  refine WL.u rfl rfl (Wt.plain rfl) (Ex.move rfl) ?_
  refine WL.call callable26 rfl (Wt.plain rfl) rfl rfl (sl91OfL _ _ _ _ _ n m _ (hH.at 0 rfl) (hc.kept hH.keep) hca hl (by omega) (by omega) (by omega)) ?_
  rintro _ wn ⟨g, q, hN, hgl, hgr, hKK, ho, hq, hgo⟩; obtain ⟨b30, cap30, cur30, rfl, hge30, hbb30, ho30⟩ := hN.own; replace hH := hH.turnPush hKK ho hge30 hbb30; clear hKK ho hN; obtain ⟨hG, hnR, hnC⟩ := gridOk_rows hgl hgr hgo (by omega) (by omega) (by omega) (by omega)
  refine WL.call callable17 rfl (Wt.plain rfl) rfl rfl (sl2Pairs g _ _ _ (ho30.slAt hH 0 rfl) hG) ?_
  rintro _ wn ⟨hC, hN⟩; obtain ⟨b31, cap31, cur31, rfl, hge31, hbb31, ho31⟩ := hN.own; replace hH := hH.push hC hge31 hbb31; clear hC hN
  refine WL.u rfl rfl (Wt.plain rfl) (Ex.assign rfl) ?_
  refine WL.u rfl rfl (Wt.plain rfl) (Ex.assign rfl) ?_
  refine WL.u rfl rfl (Wt.plain rfl) (Ex.assign rfl) ?_
  refine WL.next ?_
  refine WC.ret ?_
  refine WN.body3 rfl rfl rfl rfl ?_
  exact ⟨n, m, _, _, rfl, hH.keep, New.of (hH.front 0 rfl) ho31 (hH.base 0 rfl), hsz⟩

theorem sDrawMakeFewest (a : Option Addr) (l : List UInt8) (cap : Nat) (w : World) (hc : Sl rByte w a l) (hcap : l.length ≤ cap) : Fn Try.prog 4 [.slice a l.length cap] w (fun v w1 => ∃ (n m : Nat) (q : List Int) (x : Value), v = .tuple #[vint n, vint m, x] ∧ Keep [] w w1 ∧ New rInt 3 w w1 x q ∧ (1 ≤ n ∧ n ≤ 3 ∧ 1 ≤ m ∧ m ≤ 3)) := by
  refine Fn.enter (n := 10) Try.func4 rfl rfl rfl ?_
  show WC _ _ _ _ [(0, .slice a l.length cap)] _
  have hH := Hp.start [] w
  refine WC.seq ?_
  refine WC.region ?_
  refine WL.u rfl rfl (Wt.plain rfl) (Ex.assign rfl) ?_
  refine WL.u rfl rfl (Wt.plain rfl) (Ex.assign rfl) ?_
  refine WL.u rfl rfl (Wt.plain rfl) (Ex.assign rfl) ?_
  refine WL.next ?_
  refine WC.seq ?_
  refine WC.region ?_
  refine WL.u rfl rfl (Wt.plain rfl) (Ex.move rfl) ?_
  refine WL.call callable9 rfl (Wt.plain rfl) rfl rfl (sl92Made _ _ _ _ (hc.kept hH.keep) hcap) ?_
  rintro _ wn ⟨n, m, q, x, rfl, hC, hN, hsz⟩; obtain ⟨b6, cap6, cur6, rfl, hge6, hbb6, ho6⟩ := hN.own; replace hH := hH.push hC hge6 hbb6; clear hC hN
  refine WL.u rfl rfl (Wt.plain rfl) (Ex.extract rfl rfl) ?_
  refine WL.u rfl rfl (Wt.plain rfl) (Ex.extract rfl rfl) ?_
  refine WL.u rfl rfl (Wt.plain rfl) (Ex.extract rfl rfl) ?_
  refine WL.u rfl rfl (Wt.plain rfl) (Ex.assign rfl) ?_
  refine WL.u rfl rfl (Wt.plain rfl) (Ex.assign rfl) ?_
  refine WL.u rfl rfl (Wt.plain rfl) (Ex.assign rfl) ?_
  refine WL.next ?_
  refine WC.ret ?_
  refine WN.body3 rfl rfl rfl rfl ?_
  exact ⟨n, m, q, _, rfl, hH.keep, New.of (hH.front 0 rfl) ho6 (hH.base 0 rfl), hsz⟩


theorem zero_eq (k : Nat) (p : Prop) [Decidable p] (h : k = 0 ↔ p) : (decide (((k : Nat) : Int) = 0) == decide p) = true := by
  by_cases hp : p
  · rw [decide_eq_true hp, decide_eq_true (show ((k : Nat) : Int) = 0 by have := h.2 hp; omega)]; rfl
  · rw [decide_eq_false hp, decide_eq_false (show ¬ ((k : Nat) : Int) = 0 from fun e => hp (h.1 (by omega)))]; rfl

theorem lawFewest (a : Option Addr) (l : List UInt8) (cap : Nat) (w : World) (hc : Sl rByte w a l) (hcap : l.length ≤ cap) : Fn Try.prog 3 [.slice a l.length cap] w (fun v w1 => v = .bool true ∧ Keep [] w w1) := by
  refine Fn.enter (n := 77) Try.func3 rfl rfl rfl ?_
  show WC _ _ _ _ [(0, .slice a l.length cap)] _
  have hH := Hp.start [] w
  refine WC.seq ?_
  refine WC.region ?_
  refine WL.u rfl rfl (Wt.plain rfl) (Ex.assign rfl) ?_
  refine WL.next ?_
  refine WC.seq ?_
  refine WC.seq ?_
  refine WC.region ?_
  refine WL.u rfl rfl (Wt.plain rfl) (Ex.move rfl) ?_
  refine WL.u rfl rfl (Wt.plain rfl) (Ex.lenSl Try.underlying22 rfl) ?_
  refine WL.u rfl rfl (Wt.plain rfl) (Ex.gtr rfl rfl) ?_
  refine WL.next ?_
  refine WC.cond rfl (fun hc1 => ?_) (fun hc1 => ?_)
  · have hc1' := hc1; try simp only [decide_eq_true_eq, decide_eq_false_iff_not, Bool.not_eq_true', Bool.not_eq_false', Bool.not_eq_true, Bool.not_eq_false] at hc1'
    refine WC.seq ?_
    refine WC.region ?_
    refine WL.u rfl rfl (Wt.plain rfl) (Ex.assign rfl) ?_
    refine WL.next ?_
    refine WC.ret ?_
    refine WN.retThen ?_
    refine WN.body1 rfl rfl ?_
    exact ⟨rfl, hH.keep⟩
  have hc1' := hc1; try simp only [decide_eq_true_eq, decide_eq_false_iff_not, Bool.not_eq_true', Bool.not_eq_false', Bool.not_eq_true, Bool.not_eq_false] at hc1'
  refine WC.skip ?_
  refine WN.next ?_
  refine WC.seq ?_
  refine WC.region ?_
  refine WL.u rfl rfl (Wt.plain rfl) (Ex.move rfl) ?_
  refine WL.call callable4 rfl (Wt.plain rfl) rfl rfl (sDrawMakeFewest _ _ _ _ (hc.kept hH.keep) hcap) ?_
  rintro _ wn ⟨n, m, q, x, rfl, hC, hN, hsz⟩; obtain ⟨b17, cap17, cur17, rfl, hge17, hbb17, ho17⟩ := hN.own; replace hH := hH.push hC hge17 hbb17; clear hC hN
  refine WL.u rfl rfl (Wt.plain rfl) (Ex.move rfl) ?_
  refine WL.u rfl rfl (Wt.plain rfl) (Ex.extract rfl rfl) ?_
  refine WL.u rfl rfl (Wt.plain rfl) (Ex.extract rfl rfl) ?_
  refine WL.u rfl rfl (Wt.plain rfl) (Ex.extract rfl rfl) ?_
  refine WL.u rfl rfl (Wt.plain rfl) (Ex.assign rfl) ?_
  refine WL.u rfl rfl (Wt.plain rfl) (Ex.assign rfl) ?_
  refine WL.u rfl rfl (Wt.plain rfl) (Ex.assign rfl) ?_
  refine WL.next ?_
  refine WC.seq ?_
  refine WC.region ?_
  refine WL.u rfl rfl (Wt.plain rfl) (Ex.move rfl) ?_
  refine WL.u rfl rfl (Wt.plain rfl) (Ex.move rfl) ?_
  refine WL.u rfl rfl (Wt.plain rfl) (Ex.move rfl) ?_
  refine WL.call callable5 rfl (Wt.plain rfl) rfl rfl (iMakeFewest n m q _ _ _ (ho17.slAt hH 0 rfl)) ?_
  rintro _ wn ⟨rfl, hC⟩; replace hH := hH.call hC; clear hC
  refine WL.u rfl rfl (Wt.plain rfl) (Ex.move rfl) ?_
  refine WL.u rfl rfl (Wt.plain rfl) (Ex.extract rfl rfl) ?_
  refine WL.u rfl rfl (Wt.plain rfl) (Ex.extract rfl rfl) ?_
  refine WL.u rfl rfl (Wt.plain rfl) (Ex.assign rfl) ?_
  refine WL.u rfl rfl (Wt.plain rfl) (Ex.assign rfl) ?_
  refine WL.next ?_
  refine WC.seq ?_
  refine WC.region ?_
  refine WL.u rfl rfl (Wt.plain rfl) (Ex.move rfl) ?_
  refine WL.u rfl rfl (Wt.plain rfl) (Ex.move rfl) ?_
  refine WL.u rfl rfl (Wt.plain rfl) (Ex.move rfl) ?_
  refine WL.call callable6 rfl (Wt.plain rfl) rfl rfl (sMakeFewest n m q _ _ _ (ho17.slAt hH 0 rfl)) ?_
  rintro _ wn ⟨rfl, hC⟩; replace hH := hH.call hC; clear hC
  refine WL.u rfl rfl (Wt.plain rfl) (Ex.move rfl) ?_
  refine WL.u rfl rfl (Wt.plain rfl) (Ex.extract rfl rfl) ?_
  refine WL.u rfl rfl (Wt.plain rfl) (Ex.extract rfl rfl) ?_
  refine WL.u rfl rfl (Wt.plain rfl) (Ex.assign rfl) ?_
  refine WL.u rfl rfl (Wt.plain rfl) (Ex.assign rfl) ?_
  refine WL.next ?_
  refine WC.seq ?_
  refine WC.seq ?_
  refine WC.region ?_
  refine WL.u rfl rfl (Wt.plain rfl) (Ex.move rfl) ?_
  refine WL.u rfl rfl (Wt.plain rfl) (Ex.move rfl) ?_
  refine WL.u rfl rfl (Wt.plain rfl) (Ex.neqB Try.underlying4 rfl rfl) ?_
  refine WL.u rfl rfl (Wt.plain rfl) (Ex.move rfl) ?_
  refine WL.split (t := 38) rfl (fun hg6_3 => ?_) (fun hg6_3 => ?_)
  · exfalso; simp at hg6_3
  have hg6_3' := hg6_3; try simp only [decide_eq_true_eq, decide_eq_false_iff_not, Bool.not_eq_true', Bool.not_eq_false', Bool.not_eq_true, Bool.not_eq_false] at hg6_3'
  refine WL.u rfl rfl (Wt.guard' rfl rfl rfl hg6_3 rfl) (Ex.move rfl) ?_
  refine WL.u rfl rfl (Wt.guard' rfl rfl rfl hg6_3 rfl) (Ex.move rfl) ?_
  refine WL.u rfl rfl (Wt.guard' rfl rfl rfl hg6_3 rfl) (Ex.neq rfl rfl) ?_
  refine WL.u rfl rfl (Wt.plain rfl) (Ex.pickF rfl hg6_3 rfl) ?_
  refine WL.u rfl rfl (Wt.plain rfl) (Ex.move rfl) ?_
  refine WL.split (t := 43) rfl (fun hg6_8 => ?_) (fun hg6_8 => ?_)
  · exfalso; simp at hg6_8
  have hg6_8' := hg6_8; try simp only [decide_eq_true_eq, decide_eq_false_iff_not, Bool.not_eq_true', Bool.not_eq_false', Bool.not_eq_true, Bool.not_eq_false] at hg6_8'
  refine WL.u rfl rfl (Wt.guard' rfl rfl rfl hg6_8 rfl) (Ex.move rfl) ?_
  refine WL.u rfl rfl (Wt.guard' rfl rfl rfl hg6_8 rfl) (Ex.not rfl) ?_
  refine WL.u rfl rfl (Wt.plain rfl) (Ex.pickF rfl hg6_8 rfl) ?_
  refine WL.next ?_
  refine WC.cond rfl (fun hc2 => ?_) (fun hc2 => ?_)
  · have hc2' := hc2; try simp only [decide_eq_true_eq, decide_eq_false_iff_not, Bool.not_eq_true', Bool.not_eq_false', Bool.not_eq_true, Bool.not_eq_false] at hc2'
    refine WC.seq ?_
    refine WC.region ?_
    refine WL.u rfl rfl (Wt.plain rfl) (Ex.move rfl) ?_
    refine WL.u rfl rfl (Wt.plain rfl) (Ex.move rfl) ?_
    refine WL.u rfl rfl (Wt.plain rfl) (Ex.eqlB Try.underlying4 rfl rfl) ?_
    refine WL.u rfl rfl (Wt.plain rfl) (Ex.move rfl) ?_
    refine WL.split (t := 50) rfl (fun hg7_3 => ?_) (fun hg7_3 => ?_)
    · have hg7_3' := hg7_3; try simp only [decide_eq_true_eq, decide_eq_false_iff_not, Bool.not_eq_true', Bool.not_eq_false', Bool.not_eq_true, Bool.not_eq_false] at hg7_3'
      refine WL.u rfl rfl (Wt.guard' rfl rfl rfl hg7_3 rfl) (Ex.move rfl) ?_
      refine WL.u rfl rfl (Wt.guard' rfl rfl rfl hg7_3 rfl) (Ex.move rfl) ?_
      refine WL.u rfl rfl (Wt.guard' rfl rfl rfl hg7_3 rfl) (Ex.eql rfl rfl) ?_
      refine WL.u rfl rfl (Wt.plain rfl) (Ex.pickT rfl hg7_3 rfl) ?_
      refine WL.u rfl rfl (Wt.plain rfl) (Ex.assign rfl) ?_
      refine WL.next ?_
      refine WC.ret ?_
      refine WN.retThen ?_
      refine WN.body1 rfl rfl ?_
      exact ⟨congrArg Value.bool (by simp), hH.keep⟩
    exfalso; simp at hg7_3
  have hts : (fewest n m q).2 = true := by simpa using hc2
  obtain ⟨n2, m2, e1, e2, hA, hne, hfe⟩ := fewest_ex hts
  obtain rfl : n = n2 := by omega
  obtain rfl : m = m2 := by omega
  have h6 := hA.six
  have hmI : (n : Int) * (m : Int) = ((n * m : Nat) : Int) := (Int.natCast_mul n m).symm
  have hle := least_le n m (made n m q)
  rw [hfe] at *
  refine WC.skip ?_
  refine WN.next ?_
  refine WC.seq ?_
  refine WC.region ?_
  refine WL.u rfl rfl (Wt.plain rfl) (Ex.move rfl) ?_
  refine WL.u rfl rfl (Wt.plain rfl) (Ex.move rfl) ?_
  refine WL.call callable7 rfl (Wt.plain rfl) rfl rfl (iJoinUnit n m _ hA.n1 hA.n5 hA.m1 hA.m5) ?_
  rintro _ wn ⟨x, u, rfl, hC, hN, hul, hu⟩; obtain ⟨b58, cap58, cur58, rfl, hge58, hbb58, ho58⟩ := hN.own; replace hH := hH.push hC hge58 hbb58; clear hC hN
  refine WL.u rfl rfl (Wt.plain rfl) (Ex.move rfl) ?_
  refine WL.u rfl rfl (Wt.plain rfl) (Ex.extract rfl rfl) ?_
  refine WL.u rfl rfl (Wt.plain rfl) (Ex.extract rfl rfl) ?_
  refine WL.u rfl rfl (Wt.plain rfl) (Ex.assign rfl) ?_
  refine WL.u rfl rfl (Wt.plain rfl) (Ex.assign rfl) ?_
  refine WL.next ?_
  refine WC.seq ?_
  have hpe := pairs_empty hA hul hu
  have hzi := zero_eq _ _ (least_zero_iff hA hne hpe)
  refine WC.region ?_
  refine WL.u rfl rfl (Wt.plain rfl) (Ex.move rfl) ?_
  refine WL.u rfl rfl (Wt.plain rfl) (Ex.move rfl) ?_
  refine WL.u rfl rfl (Wt.guard' rfl rfl rfl (rfl) rfl) (Ex.move rfl) ?_
  refine WL.u rfl rfl (Wt.guard' rfl rfl rfl (rfl) rfl) (Ex.eql rfl rfl) ?_
  refine WL.u rfl rfl (Wt.guard' rfl rfl rfl (rfl) rfl) (Ex.move rfl) ?_
  refine WL.u rfl rfl (Wt.guard' rfl rfl rfl (rfl) rfl) (Ex.move rfl) ?_
  refine WL.call callable8 rfl (Wt.guard' rfl rfl rfl (rfl) rfl) rfl rfl (sameInts u q _ _ _ _ _ (ho58.slAt hH 0 rfl) (ho17.slAt hH 1 rfl)) ?_
  rintro _ wn ⟨rfl, hC⟩; replace hH := hH.dr hC; clear hC
  refine WL.u rfl rfl (Wt.guard' rfl rfl rfl (rfl) rfl) (Ex.eqlB Try.underlying4 rfl rfl) ?_
  refine WL.u rfl rfl (Wt.plain rfl) (Ex.pickT rfl (rfl) rfl) ?_
  refine WL.u rfl rfl (Wt.plain rfl) (Ex.move rfl) ?_
  refine WL.u rfl rfl (Wt.guard' rfl rfl rfl (hzi) rfl) (Ex.move rfl) ?_
  refine WL.u rfl rfl (Wt.guard' rfl rfl rfl (hzi) rfl) (Ex.move rfl) ?_
  refine WL.u rfl rfl (Wt.guard' rfl rfl rfl (hzi) rfl) (Ex.move rfl) ?_
  refine WL.u rfl rfl (Wt.guard' rfl rfl rfl (hzi) rfl) ((Ex.mul rfl rfl (by omega)).to (congrArg (Value.int IntKind.i64) hmI)) ?_
  refine WL.u rfl rfl (Wt.guard' rfl rfl rfl (hzi) rfl) (Ex.leq rfl rfl) ?_
  refine WL.u rfl rfl (Wt.plain rfl) (Ex.pickT rfl (hzi) rfl) ?_
  refine WL.u rfl rfl (Wt.plain rfl) (Ex.assign rfl) ?_
  refine WL.next ?_
  refine WC.ret ?_
  refine WN.body1 rfl rfl ?_
  exact ⟨congrArg Value.bool (decide_eq_true (by omega)), hH.keep⟩

end Go.Proofs.Ytlcihpleljhdpaa
