/- The draws of terms. -/
import Derived.Test.YtamkbmhgclpidaaTmL
import Derived.Test.YtamkbmhgclpidaaDraw
import Derived.Test.YtamkbmhgclpidaaTmA
namespace Go.Proofs.Ytamkbmhgclpidaa
set_option maxRecDepth 100000
set_option linter.unusedSimpArgs false
set_option linter.unusedVariables false
open Go Go.RowKit
theorem Own.strsT (L : List Str) (h : L.length ≤ 1000) : Own rStr (L.map rStr.val).toArray L.length L := by
  refine ⟨by simp [show rStr.sz = 1 from rfl], Nat.le_refl _, by omega, ?_⟩
  unfold Rw
  rw [flat_one rfl, show rStr.sz = 1 from rfl, Nat.mul_one]
  exact List.take_of_length_le (by simp)

theorem sofT (r : Nat) (a : Option Addr) (l : List UInt8) (cap p : Nat) (la : Option Addr) (L : List Str) (lcap : Nat) (w : World) (hr : w.heap[r]? = some (rdo a l.length cap p)) (hc : Sl rByte w a l) (hca : Off [r] a l) (hl : l.length ≤ 2000) (hp : p ≤ 900000) (hg : Sl rStr w la L) (hga : Off [r] la L) (hL : 1 ≤ L.length ∧ L.length ≤ 1000) : Fn Try.prog 28 [vptr r 0, .slice la L.length lcap] w (fun v w1 => ∃ s, s ∈ L ∧ v = vstr s ∧ Keep [r] w w1 ∧ w1.heap[r]? = some (rdo a l.length cap (p + 1))) := by
  refine Fn.enter (n := 12) Try.func28 rfl rfl rfl ?_
  show WC _ _ _ _ [(0, vptr r 0), (1, .slice la L.length lcap)] _
  have hH := Hp.at1 hr
  obtain ⟨b, off, rfl⟩ := hg.addr (by omega)
  refine WC.seq ?_
  refine WC.region ?_
  refine WL.u rfl rfl (Wt.plain rfl) (Ex.assign rfl) ?_
  refine WL.next ?_
  refine WC.seq ?_
  have hk0 : ∀ k : Nat, k < max L.length 1 → L[k]? = some (L.getD k []) := fun k hk => getD_get L k [] (by omega)
  refine WC.region ?_
  refine WL.u rfl rfl (Wt.plain rfl) (Ex.move rfl) ?_
  refine WL.u rfl rfl (Wt.plain rfl) (Ex.move rfl) ?_
  refine WL.u rfl rfl (Wt.plain rfl) (Ex.move rfl) ?_
  refine WL.u rfl rfl (Wt.plain rfl) (Ex.lenSl Try.underlying32 rfl) ?_
  refine WL.call callable27 rfl (Wt.plain rfl) rfl rfl (spick _ _ _ _ _ L.length _ (hH.at 0 rfl) (hc.keepO hH.keep hca) hca hl (by omega) (by omega)) ?_
  rintro _ wn ⟨k, rfl, hk, hKK, ho⟩; replace hH := hH.turn hKK ho; clear hKK ho
  refine WL.u rfl rfl (Wt.plain rfl) (Ex.indexAddr Try.underlying32 ty9 rfl rfl (by omega)) ?_
  refine WL.u rfl rfl (Wt.plain rfl) (Ex.loadSl flat9 (hg.keepO hH.keep hga) rfl rfl (hk0 k hk)) ?_
  refine WL.u rfl rfl (Wt.plain rfl) (Ex.assign rfl) ?_
  refine WL.next ?_
  refine WC.ret ?_
  refine WN.body1 rfl rfl ?_
  exact ⟨_, List.mem_of_getElem? (hk0 k hk), rfl, hH.keep, hH.at 0 rfl⟩

theorem sl92Plain1 (r : Nat) (a : Option Addr) (l : List UInt8) (cap p0 : Nat) (n m : Nat) (w : World) (hr : w.heap[r]? = some (rdo a l.length cap p0)) (hc : Sl rByte w a l) (hca : Off [r] a l) (hl : l.length ≤ 2000) (hp : p0 ≤ 900000 - 12 * (n * m)) (hn1 : 1 ≤ n) (hm1 : 1 ≤ m) (hn4 : n ≤ 4) (hm4 : m ≤ 4) (ih : ∀ (n2 m2 p2 : Nat) (w2 : World), 1 ≤ n2 → 1 ≤ m2 → n2 ≤ 4 → m2 ≤ 4 → n2 * m2 < n * m → w2.heap[r]? = some (rdo a l.length cap p2) → Sl rByte w2 a l → p2 + 3 ≤ 900000 - 12 * (n2 * m2) → Fn Try.prog 41 [vptr r 0, vint n2, vint m2] w2 (fun v w3 => ∃ (s : Str) (q : Nat), v = vstr s ∧ s.length + 6 ≤ 12 * (n2 * m2) ∧ q + 6 ≤ p2 + 12 * (n2 * m2) ∧ Keep [r] w2 w3 ∧ w3.heap[r]? = some (rdo a l.length cap q))) : Fn Try.prog 56 [vptr r 0, vint n, vint m] w (fun v w1 => ∃ (s : Str) (q : Nat), v = vstr s ∧ s.length + 9 ≤ 12 * (n * m) ∧ q + 9 ≤ p0 + 12 * (n * m) ∧ Keep [r] w w1 ∧ w1.heap[r]? = some (rdo a l.length cap q)) := by
  refine Fn.enter (n := 67) Try.func56 rfl rfl rfl ?_
  show WC _ _ _ _ [(0, vptr r 0), (1, vint n), (2, vint m)] _
  have hH := Hp.at1 hr
  have hnm : n * m ≤ 16 := Nat.mul_le_mul hn4 hm4
  have hnm1 : 1 ≤ n * m := Nat.mul_pos hn1 hm1
  refine WC.seq ?_
  refine WC.region ?_
  refine WL.u rfl rfl (Wt.plain rfl) (Ex.assign rfl) ?_
  refine WL.next ?_
  refine WC.seq ?_
  refine WC.seq ?_
  refine WC.region ?_
  refine WL.u rfl rfl (Wt.plain rfl) (Ex.move rfl) ?_
  refine WL.u rfl rfl (Wt.plain rfl) (Ex.eql rfl rfl) ?_
  refine WL.u rfl rfl (Wt.plain rfl) (Ex.move rfl) ?_
  refine WL.split (t := 11) rfl (fun hg1_2 => ?_) (fun hg1_2 => ?_)
  · have hg1_2' := hg1_2; try simp only [decide_eq_true_eq, decide_eq_false_iff_not, Bool.not_eq_true', Bool.not_eq_false', Bool.not_eq_true, Bool.not_eq_false] at hg1_2'
    refine WL.u rfl rfl (Wt.guard' rfl rfl rfl hg1_2 rfl) (Ex.move rfl) ?_
    refine WL.u rfl rfl (Wt.guard' rfl rfl rfl hg1_2 rfl) (Ex.eql rfl rfl) ?_
    refine WL.u rfl rfl (Wt.plain rfl) (Ex.pickT rfl hg1_2 rfl) ?_
    refine WL.next ?_
    refine WC.cond rfl (fun hc1 => ?_) (fun hc1 => ?_)
    · have hc1' := hc1; try simp only [decide_eq_true_eq, decide_eq_false_iff_not, Bool.not_eq_true', Bool.not_eq_false', Bool.not_eq_true, Bool.not_eq_false] at hc1'
      obtain rfl : n = 1 := by omega
      obtain rfl : m = 1 := by omega
      refine WC.seq ?_
      refine WC.region ?_
      refine WL.u rfl rfl (Wt.plain rfl) (Ex.move rfl) ?_
      refine WL.lit Try.underlying32 ty9 rfl rfl rfl rfl rfl rfl rfl (Wt.plain rfl) hH (fun b16 wn hb16 hk16 hH => ?_)
      have ho16 := Own.strsT ([[46], [114], [102], [114], [102]] : List Str) (by decide)
      replace hH := hH.f1
      refine WL.call callable28 rfl (Wt.plain rfl) rfl rfl (sofT _ _ _ _ _ _ ([[46], [114], [102], [114], [102]] : List Str) _ _ (hH.at 0 rfl) (hc.keepO hH.keep hca) hca hl (by omega) (ho16.slAt hH 1 rfl) (.inr fun p hp => by cases hp; exact hH.nin 1 0 rfl rfl rfl) (by decide)) ?_
      rintro _ wn ⟨t17, ht17, rfl, hKK, ho⟩; replace hH := hH.turn hKK ho; clear hKK ho; have hlt17 : t17.length ≤ 1 := (show ∀ s ∈ ([[46], [114], [102], [114], [102]] : List Str), s.length ≤ 1 by decide) _ ht17
      refine WL.u rfl rfl (Wt.plain rfl) (Ex.assign rfl) ?_
      refine WL.next ?_
      refine WC.ret ?_
      refine WN.retThen ?_
      refine WN.body1 rfl rfl ?_
      exact ⟨_, _, rfl, by omega, by omega, hH.keep, (hH.at 0 rfl)⟩
    have hc1' := hc1; try simp only [decide_eq_true_eq, decide_eq_false_iff_not, Bool.not_eq_true', Bool.not_eq_false', Bool.not_eq_true, Bool.not_eq_false] at hc1'
    refine WC.skip ?_
    refine WN.next ?_
    refine WC.seq ?_
    refine WC.seq ?_
    refine WC.region ?_
    refine WL.u rfl rfl (Wt.plain rfl) (Ex.move rfl) ?_
    refine WL.u rfl rfl (Wt.plain rfl) (Ex.gtr rfl rfl) ?_
    refine WL.u rfl rfl (Wt.plain rfl) (Ex.move rfl) ?_
    refine WL.split (t := 20) rfl (fun hg3_2 => ?_) (fun hg3_2 => ?_)
    · have hg3_2' := hg3_2; try simp only [decide_eq_true_eq, decide_eq_false_iff_not, Bool.not_eq_true', Bool.not_eq_false', Bool.not_eq_true, Bool.not_eq_false] at hg3_2'
      refine WL.u rfl rfl (Wt.guard' rfl rfl rfl hg3_2 rfl) (Ex.move rfl) ?_
      refine WL.u rfl rfl (Wt.guard' rfl rfl rfl hg3_2 rfl) (Ex.eql rfl rfl) ?_
      refine WL.u rfl rfl (Wt.guard' rfl rfl rfl hg3_2 rfl) (Ex.move rfl) ?_
      refine WL.split (t := 23) rfl (fun hg3_5 => ?_) (fun hg3_5 => ?_)
      · have hg3_5' := hg3_5; try simp only [decide_eq_true_eq, decide_eq_false_iff_not, Bool.not_eq_true', Bool.not_eq_false', Bool.not_eq_true, Bool.not_eq_false] at hg3_5'
        refine WL.pass rfl rfl (Wt.guard' rfl rfl rfl hg3_5 rfl) ?_
        refine WL.pass rfl rfl (Wt.guard' rfl rfl rfl hg3_5 rfl) ?_
        refine WL.pass rfl rfl (Wt.guard' rfl rfl rfl hg3_5 rfl) ?_
        refine WL.u rfl rfl (Wt.guard' rfl rfl rfl hg3_2 rfl) (Ex.pickT rfl hg3_5 rfl) ?_
        refine WL.u rfl rfl (Wt.plain rfl) (Ex.pickT rfl hg3_2 rfl) ?_
        refine WL.next ?_
        refine WC.condT rfl rfl ?_
        refine WC.seq ?_
        have hm2 : 2 ≤ m := by omega
        refine WC.region ?_
        refine WL.u rfl rfl (Wt.plain rfl) (Ex.move rfl) ?_
        refine WL.u rfl rfl (Wt.plain rfl) (Ex.move rfl) ?_
        refine WL.u rfl rfl (Wt.plain rfl) ((Ex.sub rfl rfl (by omega)).to (congrArg (Value.int IntKind.i64) (show _ = ((m - 1 : Nat) : Int) by omega))) ?_
        refine WL.call callable27 rfl (Wt.plain rfl) rfl rfl (spick _ _ _ _ _ (m - 1) _ (hH.at 0 rfl) (hc.keepO hH.keep hca) hca hl (by omega) (by omega)) ?_
        rintro _ wn ⟨k32, rfl, hk32, hKK, ho⟩; replace hH := hH.turn hKK ho; clear hKK ho
        refine WL.u rfl rfl (Wt.plain rfl) ((Ex.add rfl rfl (by omega)).to (congrArg (Value.int IntKind.i64) (show _ = ((1 + k32 : Nat) : Int) by omega))) ?_
        refine WL.u rfl rfl (Wt.plain rfl) (Ex.assign rfl) ?_
        refine WL.next ?_
        refine WC.seq ?_
        have e1 : n * (1 + k32) + n * (m - (1 + k32)) = n * m := by rw [← Nat.mul_add]; exact congrArg (n * ·) (by omega)
        have e2 : 1 ≤ n * (1 + k32) := Nat.mul_pos hn1 (by omega)
        have e3 : 1 ≤ n * (m - (1 + k32)) := Nat.mul_pos hn1 (by omega)
        refine WC.region ?_
        refine WL.u rfl rfl (Wt.plain rfl) (Ex.move rfl) ?_
        refine WL.u rfl rfl (Wt.plain rfl) (Ex.move rfl) ?_
        refine WL.u rfl rfl (Wt.plain rfl) (Ex.move rfl) ?_
        refine WL.call callable41 rfl (Wt.plain rfl) rfl rfl (ih (n) (1 + k32) _ _ (by omega) (by omega) (by omega) (by omega) (by omega) (hH.at 0 rfl) (hc.keepO hH.keep hca) (by omega)) ?_
        rintro _ wn ⟨s37, q37, rfl, hls37, hlq37, hKK, ho⟩; replace hH := hH.turn hKK ho; clear hKK ho
        refine WL.u rfl rfl (Wt.plain rfl) (Ex.concat rfl rfl (by (try simp only [List.length_append, List.length_cons, List.length_nil]); omega)) ?_
        refine WL.u rfl rfl (Wt.plain rfl) (Ex.concat rfl rfl (by (try simp only [List.length_append, List.length_cons, List.length_nil]); omega)) ?_
        refine WL.u rfl rfl (Wt.plain rfl) (Ex.move rfl) ?_
        refine WL.u rfl rfl (Wt.plain rfl) (Ex.move rfl) ?_
        refine WL.u rfl rfl (Wt.plain rfl) (Ex.move rfl) ?_
        refine WL.u rfl rfl (Wt.plain rfl) (Ex.move rfl) ?_
        refine WL.u rfl rfl (Wt.plain rfl) ((Ex.sub rfl rfl (by omega)).to (congrArg (Value.int IntKind.i64) (show _ = ((m - (1 + k32) : Nat) : Int) by omega))) ?_
        refine WL.call callable41 rfl (Wt.plain rfl) rfl rfl (ih (n) (m - (1 + k32)) _ _ (by omega) (by omega) (by omega) (by omega) (by omega) (hH.at 0 rfl) (hc.keepO hH.keep hca) (by omega)) ?_
        rintro _ wn ⟨s45, q45, rfl, hls45, hlq45, hKK, ho⟩; replace hH := hH.turn hKK ho; clear hKK ho
        refine WL.u rfl rfl (Wt.plain rfl) (Ex.concat rfl rfl (by (try simp only [List.length_append, List.length_cons, List.length_nil]); omega)) ?_
        refine WL.u rfl rfl (Wt.plain rfl) (Ex.concat rfl rfl (by (try simp only [List.length_append, List.length_cons, List.length_nil]); omega)) ?_
        refine WL.u rfl rfl (Wt.plain rfl) (Ex.assign rfl) ?_
        refine WL.next ?_
        refine WC.ret ?_
        refine WN.retThen ?_
        refine WN.body1 rfl rfl ?_
        refine ⟨_, _, rfl, ?_, ?_, hH.keep, (hH.at 0 rfl)⟩
        · (try simp only [List.length_append, List.length_cons, List.length_nil]); omega
        · omega
      have hg3_5' := hg3_5; try simp only [decide_eq_true_eq, decide_eq_false_iff_not, Bool.not_eq_true', Bool.not_eq_false', Bool.not_eq_true, Bool.not_eq_false] at hg3_5'
      refine WL.u rfl rfl (Wt.guard' rfl rfl rfl hg3_5 rfl) (Ex.move rfl) ?_
      refine WL.call callable27 rfl (Wt.guard' rfl rfl rfl hg3_5 rfl) rfl rfl (spick _ _ _ _ _ 2 _ (hH.at 0 rfl) (hc.keepO hH.keep hca) hca hl (by omega) (by omega)) ?_
      rintro _ wn ⟨k25, rfl, hk25, hKK, ho⟩; replace hH := hH.turn hKK ho; clear hKK ho
      refine WL.u rfl rfl (Wt.guard' rfl rfl rfl hg3_5 rfl) (Ex.eql rfl rfl) ?_
      refine WL.u rfl rfl (Wt.guard' rfl rfl rfl hg3_2 rfl) (Ex.pickF rfl hg3_5 rfl) ?_
      refine WL.u rfl rfl (Wt.plain rfl) (Ex.pickT rfl hg3_2 rfl) ?_
      refine WL.next ?_
      refine WC.cond rfl (fun hc2 => ?_) (fun hc2 => ?_)
      · have hc2' := hc2; try simp only [decide_eq_true_eq, decide_eq_false_iff_not, Bool.not_eq_true', Bool.not_eq_false', Bool.not_eq_true, Bool.not_eq_false] at hc2'
        refine WC.seq ?_
        have hm2 : 2 ≤ m := by omega
        refine WC.region ?_
        refine WL.u rfl rfl (Wt.plain rfl) (Ex.move rfl) ?_
        refine WL.u rfl rfl (Wt.plain rfl) (Ex.move rfl) ?_
        refine WL.u rfl rfl (Wt.plain rfl) ((Ex.sub rfl rfl (by omega)).to (congrArg (Value.int IntKind.i64) (show _ = ((m - 1 : Nat) : Int) by omega))) ?_
        refine WL.call callable27 rfl (Wt.plain rfl) rfl rfl (spick _ _ _ _ _ (m - 1) _ (hH.at 0 rfl) (hc.keepO hH.keep hca) hca hl (by omega) (by omega)) ?_
        rintro _ wn ⟨k32, rfl, hk32, hKK, ho⟩; replace hH := hH.turn hKK ho; clear hKK ho
        refine WL.u rfl rfl (Wt.plain rfl) ((Ex.add rfl rfl (by omega)).to (congrArg (Value.int IntKind.i64) (show _ = ((1 + k32 : Nat) : Int) by omega))) ?_
        refine WL.u rfl rfl (Wt.plain rfl) (Ex.assign rfl) ?_
        refine WL.next ?_
        refine WC.seq ?_
        have e1 : n * (1 + k32) + n * (m - (1 + k32)) = n * m := by rw [← Nat.mul_add]; exact congrArg (n * ·) (by omega)
        have e2 : 1 ≤ n * (1 + k32) := Nat.mul_pos hn1 (by omega)
        have e3 : 1 ≤ n * (m - (1 + k32)) := Nat.mul_pos hn1 (by omega)
        refine WC.region ?_
        refine WL.u rfl rfl (Wt.plain rfl) (Ex.move rfl) ?_
        refine WL.u rfl rfl (Wt.plain rfl) (Ex.move rfl) ?_
        refine WL.u rfl rfl (Wt.plain rfl) (Ex.move rfl) ?_
        refine WL.call callable41 rfl (Wt.plain rfl) rfl rfl (ih (n) (1 + k32) _ _ (by omega) (by omega) (by omega) (by omega) (by omega) (hH.at 0 rfl) (hc.keepO hH.keep hca) (by omega)) ?_
        rintro _ wn ⟨s37, q37, rfl, hls37, hlq37, hKK, ho⟩; replace hH := hH.turn hKK ho; clear hKK ho
        refine WL.u rfl rfl (Wt.plain rfl) (Ex.concat rfl rfl (by (try simp only [List.length_append, List.length_cons, List.length_nil]); omega)) ?_
        refine WL.u rfl rfl (Wt.plain rfl) (Ex.concat rfl rfl (by (try simp only [List.length_append, List.length_cons, List.length_nil]); omega)) ?_
        refine WL.u rfl rfl (Wt.plain rfl) (Ex.move rfl) ?_
        refine WL.u rfl rfl (Wt.plain rfl) (Ex.move rfl) ?_
        refine WL.u rfl rfl (Wt.plain rfl) (Ex.move rfl) ?_
        refine WL.u rfl rfl (Wt.plain rfl) (Ex.move rfl) ?_
        refine WL.u rfl rfl (Wt.plain rfl) ((Ex.sub rfl rfl (by omega)).to (congrArg (Value.int IntKind.i64) (show _ = ((m - (1 + k32) : Nat) : Int) by omega))) ?_
        refine WL.call callable41 rfl (Wt.plain rfl) rfl rfl (ih (n) (m - (1 + k32)) _ _ (by omega) (by omega) (by omega) (by omega) (by omega) (hH.at 0 rfl) (hc.keepO hH.keep hca) (by omega)) ?_
        rintro _ wn ⟨s45, q45, rfl, hls45, hlq45, hKK, ho⟩; replace hH := hH.turn hKK ho; clear hKK ho
        refine WL.u rfl rfl (Wt.plain rfl) (Ex.concat rfl rfl (by (try simp only [List.length_append, List.length_cons, List.length_nil]); omega)) ?_
        refine WL.u rfl rfl (Wt.plain rfl) (Ex.concat rfl rfl (by (try simp only [List.length_append, List.length_cons, List.length_nil]); omega)) ?_
        refine WL.u rfl rfl (Wt.plain rfl) (Ex.assign rfl) ?_
        refine WL.next ?_
        refine WC.ret ?_
        refine WN.retThen ?_
        refine WN.body1 rfl rfl ?_
        refine ⟨_, _, rfl, ?_, ?_, hH.keep, (hH.at 0 rfl)⟩
        · (try simp only [List.length_append, List.length_cons, List.length_nil]); omega
        · omega
      have hc2' := hc2; try simp only [decide_eq_true_eq, decide_eq_false_iff_not, Bool.not_eq_true', Bool.not_eq_false', Bool.not_eq_true, Bool.not_eq_false] at hc2'
      refine WC.skip ?_
      refine WN.next ?_
      refine WC.seq ?_
      have hn2 : 2 ≤ n := by omega
      refine WC.region ?_
      refine WL.u rfl rfl (Wt.plain rfl) (Ex.move rfl) ?_
      refine WL.u rfl rfl (Wt.plain rfl) (Ex.move rfl) ?_
      refine WL.u rfl rfl (Wt.plain rfl) ((Ex.sub rfl rfl (by omega)).to (congrArg (Value.int IntKind.i64) (show _ = ((n - 1 : Nat) : Int) by omega))) ?_
      refine WL.call callable27 rfl (Wt.plain rfl) rfl rfl (spick _ _ _ _ _ (n - 1) _ (hH.at 0 rfl) (hc.keepO hH.keep hca) hca hl (by omega) (by omega)) ?_
      rintro _ wn ⟨k51, rfl, hk51, hKK, ho⟩; replace hH := hH.turn hKK ho; clear hKK ho
      refine WL.u rfl rfl (Wt.plain rfl) ((Ex.add rfl rfl (by omega)).to (congrArg (Value.int IntKind.i64) (show _ = ((1 + k51 : Nat) : Int) by omega))) ?_
      refine WL.u rfl rfl (Wt.plain rfl) (Ex.assign rfl) ?_
      refine WL.next ?_
      refine WC.seq ?_
      have e1 : (1 + k51) * m + (n - (1 + k51)) * m = n * m := by rw [← Nat.add_mul]; exact congrArg (· * m) (by omega)
      have e2 : 1 ≤ (1 + k51) * m := Nat.mul_pos (by omega) hm1
      have e3 : 1 ≤ (n - (1 + k51)) * m := Nat.mul_pos (by omega) hm1
      refine WC.region ?_
      refine WL.u rfl rfl (Wt.plain rfl) (Ex.move rfl) ?_
      refine WL.u rfl rfl (Wt.plain rfl) (Ex.move rfl) ?_
      refine WL.u rfl rfl (Wt.plain rfl) (Ex.move rfl) ?_
      refine WL.call callable41 rfl (Wt.plain rfl) rfl rfl (ih (1 + k51) (m) _ _ (by omega) (by omega) (by omega) (by omega) (by omega) (hH.at 0 rfl) (hc.keepO hH.keep hca) (by omega)) ?_
      rintro _ wn ⟨s56, q56, rfl, hls56, hlq56, hKK, ho⟩; replace hH := hH.turn hKK ho; clear hKK ho
      refine WL.u rfl rfl (Wt.plain rfl) (Ex.concat rfl rfl (by (try simp only [List.length_append, List.length_cons, List.length_nil]); omega)) ?_
      refine WL.u rfl rfl (Wt.plain rfl) (Ex.concat rfl rfl (by (try simp only [List.length_append, List.length_cons, List.length_nil]); omega)) ?_
      refine WL.u rfl rfl (Wt.plain rfl) (Ex.move rfl) ?_
      refine WL.u rfl rfl (Wt.plain rfl) (Ex.move rfl) ?_
      refine WL.u rfl rfl (Wt.plain rfl) (Ex.move rfl) ?_
      refine WL.u rfl rfl (Wt.plain rfl) ((Ex.sub rfl rfl (by omega)).to (congrArg (Value.int IntKind.i64) (show _ = ((n - (1 + k51) : Nat) : Int) by omega))) ?_
      refine WL.u rfl rfl (Wt.plain rfl) (Ex.move rfl) ?_
      refine WL.call callable41 rfl (Wt.plain rfl) rfl rfl (ih (n - (1 + k51)) (m) _ _ (by omega) (by omega) (by omega) (by omega) (by omega) (hH.at 0 rfl) (hc.keepO hH.keep hca) (by omega)) ?_
      rintro _ wn ⟨s64, q64, rfl, hls64, hlq64, hKK, ho⟩; replace hH := hH.turn hKK ho; clear hKK ho
      refine WL.u rfl rfl (Wt.plain rfl) (Ex.concat rfl rfl (by (try simp only [List.length_append, List.length_cons, List.length_nil]); omega)) ?_
      refine WL.u rfl rfl (Wt.plain rfl) (Ex.concat rfl rfl (by (try simp only [List.length_append, List.length_cons, List.length_nil]); omega)) ?_
      refine WL.u rfl rfl (Wt.plain rfl) (Ex.assign rfl) ?_
      refine WL.next ?_
      refine WC.ret ?_
      refine WN.body1 rfl rfl ?_
      refine ⟨_, _, rfl, ?_, ?_, hH.keep, (hH.at 0 rfl)⟩
      · (try simp only [List.length_append, List.length_cons, List.length_nil]); omega
      · omega
    have hg3_2' := hg3_2; try simp only [decide_eq_true_eq, decide_eq_false_iff_not, Bool.not_eq_true', Bool.not_eq_false', Bool.not_eq_true, Bool.not_eq_false] at hg3_2'
    refine WL.pass rfl rfl (Wt.guard' rfl rfl rfl hg3_2 rfl) ?_
    refine WL.pass rfl rfl (Wt.guard' rfl rfl rfl hg3_2 rfl) ?_
    refine WL.pass rfl rfl (Wt.guard' rfl rfl rfl hg3_2 rfl) ?_
    refine WL.pass rfl rfl (Wt.undef rfl rfl rfl) ?_
    refine WL.pass rfl rfl (Wt.undef rfl rfl rfl) ?_
    refine WL.pass rfl rfl (Wt.undef rfl rfl rfl) ?_
    refine WL.pass rfl rfl (Wt.guard' rfl rfl rfl hg3_2 rfl) ?_
    refine WL.u rfl rfl (Wt.plain rfl) (Ex.pickF rfl hg3_2 rfl) ?_
    refine WL.next ?_
    refine WC.condF rfl rfl ?_
    refine WC.skip ?_
    refine WN.next ?_
    refine WC.seq ?_
    have hn2 : 2 ≤ n := by omega
    refine WC.region ?_
    refine WL.u rfl rfl (Wt.plain rfl) (Ex.move rfl) ?_
    refine WL.u rfl rfl (Wt.plain rfl) (Ex.move rfl) ?_
    refine WL.u rfl rfl (Wt.plain rfl) ((Ex.sub rfl rfl (by omega)).to (congrArg (Value.int IntKind.i64) (show _ = ((n - 1 : Nat) : Int) by omega))) ?_
    refine WL.call callable27 rfl (Wt.plain rfl) rfl rfl (spick _ _ _ _ _ (n - 1) _ (hH.at 0 rfl) (hc.keepO hH.keep hca) hca hl (by omega) (by omega)) ?_
    rintro _ wn ⟨k51, rfl, hk51, hKK, ho⟩; replace hH := hH.turn hKK ho; clear hKK ho
    refine WL.u rfl rfl (Wt.plain rfl) ((Ex.add rfl rfl (by omega)).to (congrArg (Value.int IntKind.i64) (show _ = ((1 + k51 : Nat) : Int) by omega))) ?_
    refine WL.u rfl rfl (Wt.plain rfl) (Ex.assign rfl) ?_
    refine WL.next ?_
    refine WC.seq ?_
    have e1 : (1 + k51) * m + (n - (1 + k51)) * m = n * m := by rw [← Nat.add_mul]; exact congrArg (· * m) (by omega)
    have e2 : 1 ≤ (1 + k51) * m := Nat.mul_pos (by omega) hm1
    have e3 : 1 ≤ (n - (1 + k51)) * m := Nat.mul_pos (by omega) hm1
    refine WC.region ?_
    refine WL.u rfl rfl (Wt.plain rfl) (Ex.move rfl) ?_
    refine WL.u rfl rfl (Wt.plain rfl) (Ex.move rfl) ?_
    refine WL.u rfl rfl (Wt.plain rfl) (Ex.move rfl) ?_
    refine WL.call callable41 rfl (Wt.plain rfl) rfl rfl (ih (1 + k51) (m) _ _ (by omega) (by omega) (by omega) (by omega) (by omega) (hH.at 0 rfl) (hc.keepO hH.keep hca) (by omega)) ?_
    rintro _ wn ⟨s56, q56, rfl, hls56, hlq56, hKK, ho⟩; replace hH := hH.turn hKK ho; clear hKK ho
    refine WL.u rfl rfl (Wt.plain rfl) (Ex.concat rfl rfl (by (try simp only [List.length_append, List.length_cons, List.length_nil]); omega)) ?_
    refine WL.u rfl rfl (Wt.plain rfl) (Ex.concat rfl rfl (by (try simp only [List.length_append, List.length_cons, List.length_nil]); omega)) ?_
    refine WL.u rfl rfl (Wt.plain rfl) (Ex.move rfl) ?_
    refine WL.u rfl rfl (Wt.plain rfl) (Ex.move rfl) ?_
    refine WL.u rfl rfl (Wt.plain rfl) (Ex.move rfl) ?_
    refine WL.u rfl rfl (Wt.plain rfl) ((Ex.sub rfl rfl (by omega)).to (congrArg (Value.int IntKind.i64) (show _ = ((n - (1 + k51) : Nat) : Int) by omega))) ?_
    refine WL.u rfl rfl (Wt.plain rfl) (Ex.move rfl) ?_
    refine WL.call callable41 rfl (Wt.plain rfl) rfl rfl (ih (n - (1 + k51)) (m) _ _ (by omega) (by omega) (by omega) (by omega) (by omega) (hH.at 0 rfl) (hc.keepO hH.keep hca) (by omega)) ?_
    rintro _ wn ⟨s64, q64, rfl, hls64, hlq64, hKK, ho⟩; replace hH := hH.turn hKK ho; clear hKK ho
    refine WL.u rfl rfl (Wt.plain rfl) (Ex.concat rfl rfl (by (try simp only [List.length_append, List.length_cons, List.length_nil]); omega)) ?_
    refine WL.u rfl rfl (Wt.plain rfl) (Ex.concat rfl rfl (by (try simp only [List.length_append, List.length_cons, List.length_nil]); omega)) ?_
    refine WL.u rfl rfl (Wt.plain rfl) (Ex.assign rfl) ?_
    refine WL.next ?_
    refine WC.ret ?_
    refine WN.body1 rfl rfl ?_
    refine ⟨_, _, rfl, ?_, ?_, hH.keep, (hH.at 0 rfl)⟩
    · (try simp only [List.length_append, List.length_cons, List.length_nil]); omega
    · omega
  have hg1_2' := hg1_2; try simp only [decide_eq_true_eq, decide_eq_false_iff_not, Bool.not_eq_true', Bool.not_eq_false', Bool.not_eq_true, Bool.not_eq_false] at hg1_2'
  refine WL.pass rfl rfl (Wt.guard' rfl rfl rfl hg1_2 rfl) ?_
  refine WL.pass rfl rfl (Wt.guard' rfl rfl rfl hg1_2 rfl) ?_
  refine WL.u rfl rfl (Wt.plain rfl) (Ex.pickF rfl hg1_2 rfl) ?_
  refine WL.next ?_
  refine WC.condF rfl rfl ?_
  refine WC.skip ?_
  refine WN.next ?_
  refine WC.seq ?_
  refine WC.seq ?_
  refine WC.region ?_
  refine WL.u rfl rfl (Wt.plain rfl) (Ex.move rfl) ?_
  refine WL.u rfl rfl (Wt.plain rfl) (Ex.gtr rfl rfl) ?_
  refine WL.u rfl rfl (Wt.plain rfl) (Ex.move rfl) ?_
  refine WL.split (t := 20) rfl (fun hg3_2 => ?_) (fun hg3_2 => ?_)
  · have hg3_2' := hg3_2; try simp only [decide_eq_true_eq, decide_eq_false_iff_not, Bool.not_eq_true', Bool.not_eq_false', Bool.not_eq_true, Bool.not_eq_false] at hg3_2'
    refine WL.u rfl rfl (Wt.guard' rfl rfl rfl hg3_2 rfl) (Ex.move rfl) ?_
    refine WL.u rfl rfl (Wt.guard' rfl rfl rfl hg3_2 rfl) (Ex.eql rfl rfl) ?_
    refine WL.u rfl rfl (Wt.guard' rfl rfl rfl hg3_2 rfl) (Ex.move rfl) ?_
    refine WL.split (t := 23) rfl (fun hg3_5 => ?_) (fun hg3_5 => ?_)
    · have hg3_5' := hg3_5; try simp only [decide_eq_true_eq, decide_eq_false_iff_not, Bool.not_eq_true', Bool.not_eq_false', Bool.not_eq_true, Bool.not_eq_false] at hg3_5'
      refine WL.pass rfl rfl (Wt.guard' rfl rfl rfl hg3_5 rfl) ?_
      refine WL.pass rfl rfl (Wt.guard' rfl rfl rfl hg3_5 rfl) ?_
      refine WL.pass rfl rfl (Wt.guard' rfl rfl rfl hg3_5 rfl) ?_
      refine WL.u rfl rfl (Wt.guard' rfl rfl rfl hg3_2 rfl) (Ex.pickT rfl hg3_5 rfl) ?_
      refine WL.u rfl rfl (Wt.plain rfl) (Ex.pickT rfl hg3_2 rfl) ?_
      refine WL.next ?_
      refine WC.condT rfl rfl ?_
      refine WC.seq ?_
      have hm2 : 2 ≤ m := by omega
      refine WC.region ?_
      refine WL.u rfl rfl (Wt.plain rfl) (Ex.move rfl) ?_
      refine WL.u rfl rfl (Wt.plain rfl) (Ex.move rfl) ?_
      refine WL.u rfl rfl (Wt.plain rfl) ((Ex.sub rfl rfl (by omega)).to (congrArg (Value.int IntKind.i64) (show _ = ((m - 1 : Nat) : Int) by omega))) ?_
      refine WL.call callable27 rfl (Wt.plain rfl) rfl rfl (spick _ _ _ _ _ (m - 1) _ (hH.at 0 rfl) (hc.keepO hH.keep hca) hca hl (by omega) (by omega)) ?_
      rintro _ wn ⟨k32, rfl, hk32, hKK, ho⟩; replace hH := hH.turn hKK ho; clear hKK ho
      refine WL.u rfl rfl (Wt.plain rfl) ((Ex.add rfl rfl (by omega)).to (congrArg (Value.int IntKind.i64) (show _ = ((1 + k32 : Nat) : Int) by omega))) ?_
      refine WL.u rfl rfl (Wt.plain rfl) (Ex.assign rfl) ?_
      refine WL.next ?_
      refine WC.seq ?_
      have e1 : n * (1 + k32) + n * (m - (1 + k32)) = n * m := by rw [← Nat.mul_add]; exact congrArg (n * ·) (by omega)
      have e2 : 1 ≤ n * (1 + k32) := Nat.mul_pos hn1 (by omega)
      have e3 : 1 ≤ n * (m - (1 + k32)) := Nat.mul_pos hn1 (by omega)
      refine WC.region ?_
      refine WL.u rfl rfl (Wt.plain rfl) (Ex.move rfl) ?_
      refine WL.u rfl rfl (Wt.plain rfl) (Ex.move rfl) ?_
      refine WL.u rfl rfl (Wt.plain rfl) (Ex.move rfl) ?_
      refine WL.call callable41 rfl (Wt.plain rfl) rfl rfl (ih (n) (1 + k32) _ _ (by omega) (by omega) (by omega) (by omega) (by omega) (hH.at 0 rfl) (hc.keepO hH.keep hca) (by omega)) ?_
      rintro _ wn ⟨s37, q37, rfl, hls37, hlq37, hKK, ho⟩; replace hH := hH.turn hKK ho; clear hKK ho
      refine WL.u rfl rfl (Wt.plain rfl) (Ex.concat rfl rfl (by (try simp only [List.length_append, List.length_cons, List.length_nil]); omega)) ?_
      refine WL.u rfl rfl (Wt.plain rfl) (Ex.concat rfl rfl (by (try simp only [List.length_append, List.length_cons, List.length_nil]); omega)) ?_
      refine WL.u rfl rfl (Wt.plain rfl) (Ex.move rfl) ?_
      refine WL.u rfl rfl (Wt.plain rfl) (Ex.move rfl) ?_
      refine WL.u rfl rfl (Wt.plain rfl) (Ex.move rfl) ?_
      refine WL.u rfl rfl (Wt.plain rfl) (Ex.move rfl) ?_
      refine WL.u rfl rfl (Wt.plain rfl) ((Ex.sub rfl rfl (by omega)).to (congrArg (Value.int IntKind.i64) (show _ = ((m - (1 + k32) : Nat) : Int) by omega))) ?_
      refine WL.call callable41 rfl (Wt.plain rfl) rfl rfl (ih (n) (m - (1 + k32)) _ _ (by omega) (by omega) (by omega) (by omega) (by omega) (hH.at 0 rfl) (hc.keepO hH.keep hca) (by omega)) ?_
      rintro _ wn ⟨s45, q45, rfl, hls45, hlq45, hKK, ho⟩; replace hH := hH.turn hKK ho; clear hKK ho
      refine WL.u rfl rfl (Wt.plain rfl) (Ex.concat rfl rfl (by (try simp only [List.length_append, List.length_cons, List.length_nil]); omega)) ?_
      refine WL.u rfl rfl (Wt.plain rfl) (Ex.concat rfl rfl (by (try simp only [List.length_append, List.length_cons, List.length_nil]); omega)) ?_
      refine WL.u rfl rfl (Wt.plain rfl) (Ex.assign rfl) ?_
      refine WL.next ?_
      refine WC.ret ?_
      refine WN.retThen ?_
      refine WN.body1 rfl rfl ?_
      refine ⟨_, _, rfl, ?_, ?_, hH.keep, (hH.at 0 rfl)⟩
      · (try simp only [List.length_append, List.length_cons, List.length_nil]); omega
      · omega
    have hg3_5' := hg3_5; try simp only [decide_eq_true_eq, decide_eq_false_iff_not, Bool.not_eq_true', Bool.not_eq_false', Bool.not_eq_true, Bool.not_eq_false] at hg3_5'
    refine WL.u rfl rfl (Wt.guard' rfl rfl rfl hg3_5 rfl) (Ex.move rfl) ?_
    refine WL.call callable27 rfl (Wt.guard' rfl rfl rfl hg3_5 rfl) rfl rfl (spick _ _ _ _ _ 2 _ (hH.at 0 rfl) (hc.keepO hH.keep hca) hca hl (by omega) (by omega)) ?_
    rintro _ wn ⟨k25, rfl, hk25, hKK, ho⟩; replace hH := hH.turn hKK ho; clear hKK ho
    refine WL.u rfl rfl (Wt.guard' rfl rfl rfl hg3_5 rfl) (Ex.eql rfl rfl) ?_
    refine WL.u rfl rfl (Wt.guard' rfl rfl rfl hg3_2 rfl) (Ex.pickF rfl hg3_5 rfl) ?_
    refine WL.u rfl rfl (Wt.plain rfl) (Ex.pickT rfl hg3_2 rfl) ?_
    refine WL.next ?_
    refine WC.cond rfl (fun hc2 => ?_) (fun hc2 => ?_)
    · have hc2' := hc2; try simp only [decide_eq_true_eq, decide_eq_false_iff_not, Bool.not_eq_true', Bool.not_eq_false', Bool.not_eq_true, Bool.not_eq_false] at hc2'
      refine WC.seq ?_
      have hm2 : 2 ≤ m := by omega
      refine WC.region ?_
      refine WL.u rfl rfl (Wt.plain rfl) (Ex.move rfl) ?_
      refine WL.u rfl rfl (Wt.plain rfl) (Ex.move rfl) ?_
      refine WL.u rfl rfl (Wt.plain rfl) ((Ex.sub rfl rfl (by omega)).to (congrArg (Value.int IntKind.i64) (show _ = ((m - 1 : Nat) : Int) by omega))) ?_
      refine WL.call callable27 rfl (Wt.plain rfl) rfl rfl (spick _ _ _ _ _ (m - 1) _ (hH.at 0 rfl) (hc.keepO hH.keep hca) hca hl (by omega) (by omega)) ?_
      rintro _ wn ⟨k32, rfl, hk32, hKK, ho⟩; replace hH := hH.turn hKK ho; clear hKK ho
      refine WL.u rfl rfl (Wt.plain rfl) ((Ex.add rfl rfl (by omega)).to (congrArg (Value.int IntKind.i64) (show _ = ((1 + k32 : Nat) : Int) by omega))) ?_
      refine WL.u rfl rfl (Wt.plain rfl) (Ex.assign rfl) ?_
      refine WL.next ?_
      refine WC.seq ?_
      have e1 : n * (1 + k32) + n * (m - (1 + k32)) = n * m := by rw [← Nat.mul_add]; exact congrArg (n * ·) (by omega)
      have e2 : 1 ≤ n * (1 + k32) := Nat.mul_pos hn1 (by omega)
      have e3 : 1 ≤ n * (m - (1 + k32)) := Nat.mul_pos hn1 (by omega)
      refine WC.region ?_
      refine WL.u rfl rfl (Wt.plain rfl) (Ex.move rfl) ?_
      refine WL.u rfl rfl (Wt.plain rfl) (Ex.move rfl) ?_
      refine WL.u rfl rfl (Wt.plain rfl) (Ex.move rfl) ?_
      refine WL.call callable41 rfl (Wt.plain rfl) rfl rfl (ih (n) (1 + k32) _ _ (by omega) (by omega) (by omega) (by omega) (by omega) (hH.at 0 rfl) (hc.keepO hH.keep hca) (by omega)) ?_
      rintro _ wn ⟨s37, q37, rfl, hls37, hlq37, hKK, ho⟩; replace hH := hH.turn hKK ho; clear hKK ho
      refine WL.u rfl rfl (Wt.plain rfl) (Ex.concat rfl rfl (by (try simp only [List.length_append, List.length_cons, List.length_nil]); omega)) ?_
      refine WL.u rfl rfl (Wt.plain rfl) (Ex.concat rfl rfl (by (try simp only [List.length_append, List.length_cons, List.length_nil]); omega)) ?_
      refine WL.u rfl rfl (Wt.plain rfl) (Ex.move rfl) ?_
      refine WL.u rfl rfl (Wt.plain rfl) (Ex.move rfl) ?_
      refine WL.u rfl rfl (Wt.plain rfl) (Ex.move rfl) ?_
      refine WL.u rfl rfl (Wt.plain rfl) (Ex.move rfl) ?_
      refine WL.u rfl rfl (Wt.plain rfl) ((Ex.sub rfl rfl (by omega)).to (congrArg (Value.int IntKind.i64) (show _ = ((m - (1 + k32) : Nat) : Int) by omega))) ?_
      refine WL.call callable41 rfl (Wt.plain rfl) rfl rfl (ih (n) (m - (1 + k32)) _ _ (by omega) (by omega) (by omega) (by omega) (by omega) (hH.at 0 rfl) (hc.keepO hH.keep hca) (by omega)) ?_
      rintro _ wn ⟨s45, q45, rfl, hls45, hlq45, hKK, ho⟩; replace hH := hH.turn hKK ho; clear hKK ho
      refine WL.u rfl rfl (Wt.plain rfl) (Ex.concat rfl rfl (by (try simp only [List.length_append, List.length_cons, List.length_nil]); omega)) ?_
      refine WL.u rfl rfl (Wt.plain rfl) (Ex.concat rfl rfl (by (try simp only [List.length_append, List.length_cons, List.length_nil]); omega)) ?_
      refine WL.u rfl rfl (Wt.plain rfl) (Ex.assign rfl) ?_
      refine WL.next ?_
      refine WC.ret ?_
      refine WN.retThen ?_
      refine WN.body1 rfl rfl ?_
      refine ⟨_, _, rfl, ?_, ?_, hH.keep, (hH.at 0 rfl)⟩
      · (try simp only [List.length_append, List.length_cons, List.length_nil]); omega
      · omega
    have hc2' := hc2; try simp only [decide_eq_true_eq, decide_eq_false_iff_not, Bool.not_eq_true', Bool.not_eq_false', Bool.not_eq_true, Bool.not_eq_false] at hc2'
    refine WC.skip ?_
    refine WN.next ?_
    refine WC.seq ?_
    have hn2 : 2 ≤ n := by omega
    refine WC.region ?_
    refine WL.u rfl rfl (Wt.plain rfl) (Ex.move rfl) ?_
    refine WL.u rfl rfl (Wt.plain rfl) (Ex.move rfl) ?_
    refine WL.u rfl rfl (Wt.plain rfl) ((Ex.sub rfl rfl (by omega)).to (congrArg (Value.int IntKind.i64) (show _ = ((n - 1 : Nat) : Int) by omega))) ?_
    refine WL.call callable27 rfl (Wt.plain rfl) rfl rfl (spick _ _ _ _ _ (n - 1) _ (hH.at 0 rfl) (hc.keepO hH.keep hca) hca hl (by omega) (by omega)) ?_
    rintro _ wn ⟨k51, rfl, hk51, hKK, ho⟩; replace hH := hH.turn hKK ho; clear hKK ho
    refine WL.u rfl rfl (Wt.plain rfl) ((Ex.add rfl rfl (by omega)).to (congrArg (Value.int IntKind.i64) (show _ = ((1 + k51 : Nat) : Int) by omega))) ?_
    refine WL.u rfl rfl (Wt.plain rfl) (Ex.assign rfl) ?_
    refine WL.next ?_
    refine WC.seq ?_
    have e1 : (1 + k51) * m + (n - (1 + k51)) * m = n * m := by rw [← Nat.add_mul]; exact congrArg (· * m) (by omega)
    have e2 : 1 ≤ (1 + k51) * m := Nat.mul_pos (by omega) hm1
    have e3 : 1 ≤ (n - (1 + k51)) * m := Nat.mul_pos (by omega) hm1
    refine WC.region ?_
    refine WL.u rfl rfl (Wt.plain rfl) (Ex.move rfl) ?_
    refine WL.u rfl rfl (Wt.plain rfl) (Ex.move rfl) ?_
    refine WL.u rfl rfl (Wt.plain rfl) (Ex.move rfl) ?_
    refine WL.call callable41 rfl (Wt.plain rfl) rfl rfl (ih (1 + k51) (m) _ _ (by omega) (by omega) (by omega) (by omega) (by omega) (hH.at 0 rfl) (hc.keepO hH.keep hca) (by omega)) ?_
    rintro _ wn ⟨s56, q56, rfl, hls56, hlq56, hKK, ho⟩; replace hH := hH.turn hKK ho; clear hKK ho
    refine WL.u rfl rfl (Wt.plain rfl) (Ex.concat rfl rfl (by (try simp only [List.length_append, List.length_cons, List.length_nil]); omega)) ?_
    refine WL.u rfl rfl (Wt.plain rfl) (Ex.concat rfl rfl (by (try simp only [List.length_append, List.length_cons, List.length_nil]); omega)) ?_
    refine WL.u rfl rfl (Wt.plain rfl) (Ex.move rfl) ?_
    refine WL.u rfl rfl (Wt.plain rfl) (Ex.move rfl) ?_
    refine WL.u rfl rfl (Wt.plain rfl) (Ex.move rfl) ?_
    refine WL.u rfl rfl (Wt.plain rfl) ((Ex.sub rfl rfl (by omega)).to (congrArg (Value.int IntKind.i64) (show _ = ((n - (1 + k51) : Nat) : Int) by omega))) ?_
    refine WL.u rfl rfl (Wt.plain rfl) (Ex.move rfl) ?_
    refine WL.call callable41 rfl (Wt.plain rfl) rfl rfl (ih (n - (1 + k51)) (m) _ _ (by omega) (by omega) (by omega) (by omega) (by omega) (hH.at 0 rfl) (hc.keepO hH.keep hca) (by omega)) ?_
    rintro _ wn ⟨s64, q64, rfl, hls64, hlq64, hKK, ho⟩; replace hH := hH.turn hKK ho; clear hKK ho
    refine WL.u rfl rfl (Wt.plain rfl) (Ex.concat rfl rfl (by (try simp only [List.length_append, List.length_cons, List.length_nil]); omega)) ?_
    refine WL.u rfl rfl (Wt.plain rfl) (Ex.concat rfl rfl (by (try simp only [List.length_append, List.length_cons, List.length_nil]); omega)) ?_
    refine WL.u rfl rfl (Wt.plain rfl) (Ex.assign rfl) ?_
    refine WL.next ?_
    refine WC.ret ?_
    refine WN.body1 rfl rfl ?_
    refine ⟨_, _, rfl, ?_, ?_, hH.keep, (hH.at 0 rfl)⟩
    · (try simp only [List.length_append, List.length_cons, List.length_nil]); omega
    · omega
  have hg3_2' := hg3_2; try simp only [decide_eq_true_eq, decide_eq_false_iff_not, Bool.not_eq_true', Bool.not_eq_false', Bool.not_eq_true, Bool.not_eq_false] at hg3_2'
  refine WL.pass rfl rfl (Wt.guard' rfl rfl rfl hg3_2 rfl) ?_
  refine WL.pass rfl rfl (Wt.guard' rfl rfl rfl hg3_2 rfl) ?_
  refine WL.pass rfl rfl (Wt.guard' rfl rfl rfl hg3_2 rfl) ?_
  refine WL.pass rfl rfl (Wt.undef rfl rfl rfl) ?_
  refine WL.pass rfl rfl (Wt.undef rfl rfl rfl) ?_
  refine WL.pass rfl rfl (Wt.undef rfl rfl rfl) ?_
  refine WL.pass rfl rfl (Wt.guard' rfl rfl rfl hg3_2 rfl) ?_
  refine WL.u rfl rfl (Wt.plain rfl) (Ex.pickF rfl hg3_2 rfl) ?_
  refine WL.next ?_
  refine WC.condF rfl rfl ?_
  refine WC.skip ?_
  refine WN.next ?_
  refine WC.seq ?_
  have hn2 : 2 ≤ n := by omega
  refine WC.region ?_
  refine WL.u rfl rfl (Wt.plain rfl) (Ex.move rfl) ?_
  refine WL.u rfl rfl (Wt.plain rfl) (Ex.move rfl) ?_
  refine WL.u rfl rfl (Wt.plain rfl) ((Ex.sub rfl rfl (by omega)).to (congrArg (Value.int IntKind.i64) (show _ = ((n - 1 : Nat) : Int) by omega))) ?_
  refine WL.call callable27 rfl (Wt.plain rfl) rfl rfl (spick _ _ _ _ _ (n - 1) _ (hH.at 0 rfl) (hc.keepO hH.keep hca) hca hl (by omega) (by omega)) ?_
  rintro _ wn ⟨k51, rfl, hk51, hKK, ho⟩; replace hH := hH.turn hKK ho; clear hKK ho
  refine WL.u rfl rfl (Wt.plain rfl) ((Ex.add rfl rfl (by omega)).to (congrArg (Value.int IntKind.i64) (show _ = ((1 + k51 : Nat) : Int) by omega))) ?_
  refine WL.u rfl rfl (Wt.plain rfl) (Ex.assign rfl) ?_
  refine WL.next ?_
  refine WC.seq ?_
  have e1 : (1 + k51) * m + (n - (1 + k51)) * m = n * m := by rw [← Nat.add_mul]; exact congrArg (· * m) (by omega)
  have e2 : 1 ≤ (1 + k51) * m := Nat.mul_pos (by omega) hm1
  have e3 : 1 ≤ (n - (1 + k51)) * m := Nat.mul_pos (by omega) hm1
  refine WC.region ?_
  refine WL.u rfl rfl (Wt.plain rfl) (Ex.move rfl) ?_
  refine WL.u rfl rfl (Wt.plain rfl) (Ex.move rfl) ?_
  refine WL.u rfl rfl (Wt.plain rfl) (Ex.move rfl) ?_
  refine WL.call callable41 rfl (Wt.plain rfl) rfl rfl (ih (1 + k51) (m) _ _ (by omega) (by omega) (by omega) (by omega) (by omega) (hH.at 0 rfl) (hc.keepO hH.keep hca) (by omega)) ?_
  rintro _ wn ⟨s56, q56, rfl, hls56, hlq56, hKK, ho⟩; replace hH := hH.turn hKK ho; clear hKK ho
  refine WL.u rfl rfl (Wt.plain rfl) (Ex.concat rfl rfl (by (try simp only [List.length_append, List.length_cons, List.length_nil]); omega)) ?_
  refine WL.u rfl rfl (Wt.plain rfl) (Ex.concat rfl rfl (by (try simp only [List.length_append, List.length_cons, List.length_nil]); omega)) ?_
  refine WL.u rfl rfl (Wt.plain rfl) (Ex.move rfl) ?_
  refine WL.u rfl rfl (Wt.plain rfl) (Ex.move rfl) ?_
  refine WL.u rfl rfl (Wt.plain rfl) (Ex.move rfl) ?_
  refine WL.u rfl rfl (Wt.plain rfl) ((Ex.sub rfl rfl (by omega)).to (congrArg (Value.int IntKind.i64) (show _ = ((n - (1 + k51) : Nat) : Int) by omega))) ?_
  refine WL.u rfl rfl (Wt.plain rfl) (Ex.move rfl) ?_
  refine WL.call callable41 rfl (Wt.plain rfl) rfl rfl (ih (n - (1 + k51)) (m) _ _ (by omega) (by omega) (by omega) (by omega) (by omega) (hH.at 0 rfl) (hc.keepO hH.keep hca) (by omega)) ?_
  rintro _ wn ⟨s64, q64, rfl, hls64, hlq64, hKK, ho⟩; replace hH := hH.turn hKK ho; clear hKK ho
  refine WL.u rfl rfl (Wt.plain rfl) (Ex.concat rfl rfl (by (try simp only [List.length_append, List.length_cons, List.length_nil]); omega)) ?_
  refine WL.u rfl rfl (Wt.plain rfl) (Ex.concat rfl rfl (by (try simp only [List.length_append, List.length_cons, List.length_nil]); omega)) ?_
  refine WL.u rfl rfl (Wt.plain rfl) (Ex.assign rfl) ?_
  refine WL.next ?_
  refine WC.ret ?_
  refine WN.body1 rfl rfl ?_
  refine ⟨_, _, rfl, ?_, ?_, hH.keep, (hH.at 0 rfl)⟩
  · (try simp only [List.length_append, List.length_cons, List.length_nil]); omega
  · omega

theorem sl92Term1 (r : Nat) (a : Option Addr) (l : List UInt8) (cap p0 : Nat) (n m : Nat) (w : World) (hr : w.heap[r]? = some (rdo a l.length cap p0)) (hc : Sl rByte w a l) (hca : Off [r] a l) (hl : l.length ≤ 2000) (hp : p0 + 3 ≤ 900000 - 12 * (n * m)) (hn1 : 1 ≤ n) (hm1 : 1 ≤ m) (hn4 : n ≤ 4) (hm4 : m ≤ 4) (ih : ∀ (n2 m2 p2 : Nat) (w2 : World), 1 ≤ n2 → 1 ≤ m2 → n2 ≤ 4 → m2 ≤ 4 → n2 * m2 = n * m → w2.heap[r]? = some (rdo a l.length cap p2) → Sl rByte w2 a l → p2 ≤ 900000 - 12 * (n2 * m2) → Fn Try.prog 56 [vptr r 0, vint n2, vint m2] w2 (fun v w3 => ∃ (s : Str) (q : Nat), v = vstr s ∧ s.length + 9 ≤ 12 * (n2 * m2) ∧ q + 9 ≤ p2 + 12 * (n2 * m2) ∧ Keep [r] w2 w3 ∧ w3.heap[r]? = some (rdo a l.length cap q))) : Fn Try.prog 41 [vptr r 0, vint n, vint m] w (fun v w1 => ∃ (s : Str) (q : Nat), v = vstr s ∧ s.length + 6 ≤ 12 * (n * m) ∧ q + 6 ≤ p0 + 12 * (n * m) ∧ Keep [r] w w1 ∧ w1.heap[r]? = some (rdo a l.length cap q)) := by
  refine Fn.enter (n := 49) Try.func41 rfl rfl rfl ?_
  show WC _ _ _ _ [(0, vptr r 0), (1, vint n), (2, vint m)] _
  have hH := Hp.at1 hr
  have hnm : n * m ≤ 16 := Nat.mul_le_mul hn4 hm4
  have hnm1 : 1 ≤ n * m := Nat.mul_pos hn1 hm1
  refine WC.seq ?_
  refine WC.region ?_
  refine WL.u rfl rfl (Wt.plain rfl) (Ex.assign rfl) ?_
  refine WL.next ?_
  refine WC.seq ?_
  refine WC.region ?_
  refine WL.u rfl rfl (Wt.plain rfl) (Ex.move rfl) ?_
  refine WL.call callable27 rfl (Wt.plain rfl) rfl rfl (spick _ _ _ _ _ 6 _ (hH.at 0 rfl) (hc.keepO hH.keep hca) hca hl (by omega) (by omega)) ?_
  rintro _ wn ⟨k9, rfl, hk9, hKK, ho⟩; replace hH := hH.turn hKK ho; clear hKK ho
  refine WL.u rfl rfl (Wt.plain rfl) (Ex.assign rfl) ?_
  refine WL.next ?_
  refine WC.seq ?_
  refine WC.block ?_
  refine WC.seq ?_
  refine WC.region ?_
  refine WL.u rfl rfl (Wt.plain rfl) (Ex.move rfl) ?_
  refine WL.u rfl rfl (Wt.plain rfl) (Ex.eql rfl rfl) ?_
  refine WL.u rfl rfl (Wt.plain rfl) (Ex.assign rfl) ?_
  refine WL.next ?_
  refine WC.cond rfl (fun hc1 => ?_) (fun hc1 => ?_)
  · have hc1' := hc1; try simp only [decide_eq_true_eq, decide_eq_false_iff_not, Bool.not_eq_true', Bool.not_eq_false', Bool.not_eq_true, Bool.not_eq_false] at hc1'
    refine WC.seq ?_
    refine WC.region ?_
    refine WL.u rfl rfl (Wt.plain rfl) (Ex.move rfl) ?_
    refine WL.lit Try.underlying32 ty9 rfl rfl rfl rfl rfl rfl rfl (Wt.plain rfl) hH (fun b14 wn hb14 hk14 hH => ?_)
    have ho14 := Own.strsT ([[94], [42]] : List Str) (by decide)
    replace hH := hH.f1
    refine WL.call callable28 rfl (Wt.plain rfl) rfl rfl (sofT _ _ _ _ _ _ ([[94], [42]] : List Str) _ _ (hH.at 0 rfl) (hc.keepO hH.keep hca) hca hl (by omega) (ho14.slAt hH 1 rfl) (.inr fun p hp => by cases hp; exact hH.nin 1 0 rfl rfl rfl) (by decide)) ?_
    rintro _ wn ⟨t15, ht15, rfl, hKK, ho⟩; replace hH := hH.turn hKK ho; clear hKK ho; have hlt15 : t15.length ≤ 1 := (show ∀ s ∈ ([[94], [42]] : List Str), s.length ≤ 1 by decide) _ ht15
    refine WL.u rfl rfl (Wt.plain rfl) (Ex.move rfl) ?_
    refine WL.u rfl rfl (Wt.plain rfl) (Ex.move rfl) ?_
    refine WL.u rfl rfl (Wt.plain rfl) (Ex.move rfl) ?_
    refine WL.call callable56 rfl (Wt.plain rfl) rfl rfl (ih (n) (m) _ _ (by omega) (by omega) (by omega) (by omega) (rfl) (hH.at 0 rfl) (hc.keepO hH.keep hca) (by omega)) ?_
    rintro _ wn ⟨s19, q19, rfl, hls19, hlq19, hKK, ho⟩; replace hH := hH.turn hKK ho; clear hKK ho
    refine WL.u rfl rfl (Wt.plain rfl) (Ex.concat rfl rfl (by (try simp only [List.length_append, List.length_cons, List.length_nil]); omega)) ?_
    refine WL.u rfl rfl (Wt.plain rfl) (Ex.assign rfl) ?_
    refine WL.next ?_
    refine WC.ret ?_
    refine WN.retBlock ?_
    refine WN.retThen ?_
    refine WN.body1 rfl rfl ?_
    refine ⟨_, _, rfl, ?_, ?_, hH.keep, (hH.at 0 rfl)⟩
    · (try simp only [List.length_append, List.length_cons, List.length_nil]); omega
    · omega
  have hc1' := hc1; try simp only [decide_eq_true_eq, decide_eq_false_iff_not, Bool.not_eq_true', Bool.not_eq_false', Bool.not_eq_true, Bool.not_eq_false] at hc1'
  refine WC.seq ?_
  refine WC.region ?_
  refine WL.u rfl rfl (Wt.plain rfl) (Ex.move rfl) ?_
  refine WL.u rfl rfl (Wt.plain rfl) (Ex.eql rfl rfl) ?_
  refine WL.u rfl rfl (Wt.plain rfl) (Ex.assign rfl) ?_
  refine WL.next ?_
  refine WC.cond rfl (fun hc2 => ?_) (fun hc2 => ?_)
  · have hc2' := hc2; try simp only [decide_eq_true_eq, decide_eq_false_iff_not, Bool.not_eq_true', Bool.not_eq_false', Bool.not_eq_true, Bool.not_eq_false] at hc2'
    have hcm := Nat.mul_comm m n
    refine WC.seq ?_
    refine WC.region ?_
    refine WL.u rfl rfl (Wt.plain rfl) (Ex.move rfl) ?_
    refine WL.u rfl rfl (Wt.plain rfl) (Ex.move rfl) ?_
    refine WL.u rfl rfl (Wt.plain rfl) (Ex.move rfl) ?_
    refine WL.call callable56 rfl (Wt.plain rfl) rfl rfl (ih (m) (n) _ _ (by omega) (by omega) (by omega) (by omega) (Nat.mul_comm m n) (hH.at 0 rfl) (hc.keepO hH.keep hca) (by omega)) ?_
    rintro _ wn ⟨s27, q27, rfl, hls27, hlq27, hKK, ho⟩; replace hH := hH.turn hKK ho; clear hKK ho
    refine WL.u rfl rfl (Wt.plain rfl) (Ex.concat rfl rfl (by (try simp only [List.length_append, List.length_cons, List.length_nil]); omega)) ?_
    refine WL.u rfl rfl (Wt.plain rfl) (Ex.assign rfl) ?_
    refine WL.next ?_
    refine WC.ret ?_
    refine WN.retBlock ?_
    refine WN.retThen ?_
    refine WN.body1 rfl rfl ?_
    refine ⟨_, _, rfl, ?_, ?_, hH.keep, (hH.at 0 rfl)⟩
    · (try simp only [List.length_append, List.length_cons, List.length_nil]); omega
    · omega
  have hc2' := hc2; try simp only [decide_eq_true_eq, decide_eq_false_iff_not, Bool.not_eq_true', Bool.not_eq_false', Bool.not_eq_true, Bool.not_eq_false] at hc2'
  refine WC.seq ?_
  refine WC.region ?_
  refine WL.u rfl rfl (Wt.plain rfl) (Ex.move rfl) ?_
  refine WL.u rfl rfl (Wt.plain rfl) (Ex.eql rfl rfl) ?_
  refine WL.u rfl rfl (Wt.plain rfl) (Ex.move rfl) ?_
  refine WL.split (t := 32) rfl (fun hg6_2 => ?_) (fun hg6_2 => ?_)
  · have hg6_2' := hg6_2; try simp only [decide_eq_true_eq, decide_eq_false_iff_not, Bool.not_eq_true', Bool.not_eq_false', Bool.not_eq_true, Bool.not_eq_false] at hg6_2'
    refine WL.u rfl rfl (Wt.guard' rfl rfl rfl hg6_2 rfl) (Ex.move rfl) ?_
    refine WL.call callable27 rfl (Wt.guard' rfl rfl rfl hg6_2 rfl) rfl rfl (spick _ _ _ _ _ 3 _ (hH.at 0 rfl) (hc.keepO hH.keep hca) hca hl (by omega) (by omega)) ?_
    rintro _ wn ⟨k34, rfl, hk34, hKK, ho⟩; replace hH := hH.turn hKK ho; clear hKK ho
    refine WL.u rfl rfl (Wt.guard' rfl rfl rfl hg6_2 rfl) (Ex.eql rfl rfl) ?_
    refine WL.u rfl rfl (Wt.plain rfl) (Ex.pickT rfl hg6_2 rfl) ?_
    refine WL.u rfl rfl (Wt.plain rfl) (Ex.assign rfl) ?_
    refine WL.next ?_
    refine WC.cond rfl (fun hc3 => ?_) (fun hc3 => ?_)
    · have hc3' := hc3; try simp only [decide_eq_true_eq, decide_eq_false_iff_not, Bool.not_eq_true', Bool.not_eq_false', Bool.not_eq_true, Bool.not_eq_false] at hc3'
      refine WC.seq ?_
      refine WC.region ?_
      refine WL.u rfl rfl (Wt.plain rfl) (Ex.move rfl) ?_
      refine WL.lit Try.underlying32 ty9 rfl rfl rfl rfl rfl rfl rfl (Wt.plain rfl) hH (fun b38 wn hb38 hk38 hH => ?_)
      have ho38 := Own.strsT ([[62, 94, 62], [94, 42], [94, 94], [42, 42], [62, 62]] : List Str) (by decide)
      replace hH := hH.f1
      refine WL.call callable28 rfl (Wt.plain rfl) rfl rfl (sofT _ _ _ _ _ _ ([[62, 94, 62], [94, 42], [94, 94], [42, 42], [62, 62]] : List Str) _ _ (hH.at 0 rfl) (hc.keepO hH.keep hca) hca hl (by omega) (ho38.slAt hH 1 rfl) (.inr fun p hp => by cases hp; exact hH.nin 1 0 rfl rfl rfl) (by decide)) ?_
      rintro _ wn ⟨t39, ht39, rfl, hKK, ho⟩; replace hH := hH.turn hKK ho; clear hKK ho; have hlt39 : t39.length ≤ 3 := (show ∀ s ∈ ([[62, 94, 62], [94, 42], [94, 94], [42, 42], [62, 62]] : List Str), s.length ≤ 3 by decide) _ ht39
      refine WL.u rfl rfl (Wt.plain rfl) (Ex.move rfl) ?_
      refine WL.u rfl rfl (Wt.plain rfl) (Ex.move rfl) ?_
      refine WL.u rfl rfl (Wt.plain rfl) (Ex.move rfl) ?_
      refine WL.call callable56 rfl (Wt.plain rfl) rfl rfl (ih (n) (m) _ _ (by omega) (by omega) (by omega) (by omega) (rfl) (hH.at 0 rfl) (hc.keepO hH.keep hca) (by omega)) ?_
      rintro _ wn ⟨s43, q43, rfl, hls43, hlq43, hKK, ho⟩; replace hH := hH.turn hKK ho; clear hKK ho
      refine WL.u rfl rfl (Wt.plain rfl) (Ex.concat rfl rfl (by (try simp only [List.length_append, List.length_cons, List.length_nil]); omega)) ?_
      refine WL.u rfl rfl (Wt.plain rfl) (Ex.assign rfl) ?_
      refine WL.next ?_
      refine WC.ret ?_
      refine WN.retBlock ?_
      refine WN.retThen ?_
      refine WN.body1 rfl rfl ?_
      refine ⟨_, _, rfl, ?_, ?_, hH.keep, (hH.at 0 rfl)⟩
      · (try simp only [List.length_append, List.length_cons, List.length_nil]); omega
      · omega
    have hc3' := hc3; try simp only [decide_eq_true_eq, decide_eq_false_iff_not, Bool.not_eq_true', Bool.not_eq_false', Bool.not_eq_true, Bool.not_eq_false] at hc3'
    refine WC.skip ?_
    refine WN.normalBlock ?_
    refine WN.next ?_
    refine WC.seq ?_
    refine WC.region ?_
    refine WL.u rfl rfl (Wt.plain rfl) (Ex.move rfl) ?_
    refine WL.u rfl rfl (Wt.plain rfl) (Ex.move rfl) ?_
    refine WL.u rfl rfl (Wt.plain rfl) (Ex.move rfl) ?_
    refine WL.call callable56 rfl (Wt.plain rfl) rfl rfl (ih (n) (m) _ _ (by omega) (by omega) (by omega) (by omega) (rfl) (hH.at 0 rfl) (hc.keepO hH.keep hca) (by omega)) ?_
    rintro _ wn ⟨s48, q48, rfl, hls48, hlq48, hKK, ho⟩; replace hH := hH.turn hKK ho; clear hKK ho
    refine WL.u rfl rfl (Wt.plain rfl) (Ex.assign rfl) ?_
    refine WL.next ?_
    refine WC.ret ?_
    refine WN.body1 rfl rfl ?_
    refine ⟨_, _, rfl, ?_, ?_, hH.keep, (hH.at 0 rfl)⟩
    · (try simp only [List.length_append, List.length_cons, List.length_nil]); omega
    · omega
  have hg6_2' := hg6_2; try simp only [decide_eq_true_eq, decide_eq_false_iff_not, Bool.not_eq_true', Bool.not_eq_false', Bool.not_eq_true, Bool.not_eq_false] at hg6_2'
  refine WL.pass rfl rfl (Wt.guard' rfl rfl rfl hg6_2 rfl) ?_
  refine WL.pass rfl rfl (Wt.guard' rfl rfl rfl hg6_2 rfl) ?_
  refine WL.pass rfl rfl (Wt.guard' rfl rfl rfl hg6_2 rfl) ?_
  refine WL.u rfl rfl (Wt.plain rfl) (Ex.pickF rfl hg6_2 rfl) ?_
  refine WL.u rfl rfl (Wt.plain rfl) (Ex.assign rfl) ?_
  refine WL.next ?_
  refine WC.condF rfl rfl ?_
  refine WC.skip ?_
  refine WN.normalBlock ?_
  refine WN.next ?_
  refine WC.seq ?_
  refine WC.region ?_
  refine WL.u rfl rfl (Wt.plain rfl) (Ex.move rfl) ?_
  refine WL.u rfl rfl (Wt.plain rfl) (Ex.move rfl) ?_
  refine WL.u rfl rfl (Wt.plain rfl) (Ex.move rfl) ?_
  refine WL.call callable56 rfl (Wt.plain rfl) rfl rfl (ih (n) (m) _ _ (by omega) (by omega) (by omega) (by omega) (rfl) (hH.at 0 rfl) (hc.keepO hH.keep hca) (by omega)) ?_
  rintro _ wn ⟨s48, q48, rfl, hls48, hlq48, hKK, ho⟩; replace hH := hH.turn hKK ho; clear hKK ho
  refine WL.u rfl rfl (Wt.plain rfl) (Ex.assign rfl) ?_
  refine WL.next ?_
  refine WC.ret ?_
  refine WN.body1 rfl rfl ?_
  refine ⟨_, _, rfl, ?_, ?_, hH.keep, (hH.at 0 rfl)⟩
  · (try simp only [List.length_append, List.length_cons, List.length_nil]); omega
  · omega


theorem sl92Both (r : Nat) (a : Option Addr) (l : List UInt8) (cap : Nat) (hca : Off [r] a l) (hl : l.length ≤ 2000) (f : Nat) :
    ∀ (n m p : Nat) (w : World), 1 ≤ n → 1 ≤ m → n ≤ 4 → m ≤ 4 → n * m ≤ f → w.heap[r]? = some (rdo a l.length cap p) → Sl rByte w a l → p + 3 ≤ 900000 - 12 * (n * m) → Fn Try.prog 41 [vptr r 0, vint n, vint m] w (fun v w3 => ∃ (s : Str) (q : Nat), v = vstr s ∧ s.length + 6 ≤ 12 * (n * m) ∧ q + 6 ≤ p + 12 * (n * m) ∧ Keep [r] w w3 ∧ w3.heap[r]? = some (rdo a l.length cap q)) := by
  induction f with
  | zero => intro n m p w h1 h2 _ _ h5; have := Nat.mul_pos h1 h2; omega
  | succ f ih =>
    intro n m p w h1 h2 h3 h4 h5 h6 h7 h8
    refine sl92Term1 r a l cap p n m w h6 h7 hca hl h8 h1 h2 h3 h4 fun n2 m2 p2 w2 k1 k2 k3 k4 k5 k6 k7 k8 => ?_
    refine sl92Plain1 r a l cap p2 n2 m2 w2 k6 k7 hca hl k8 k1 k2 k3 k4 fun n3 m3 p3 w3 j1 j2 j3 j4 j5 j6 j7 j8 => ?_
    exact ih n3 m3 p3 w3 j1 j2 j3 j4 (by omega) j6 j7 j8

theorem sl92Text (r : Nat) (a : Option Addr) (l : List UInt8) (cap p0 : Nat) (w : World) (hr : w.heap[r]? = some (rdo a l.length cap p0)) (hc : Sl rByte w a l) (hca : Off [r] a l) (hl : l.length ≤ 2000) (hp : p0 ≤ 800000) : Fn Try.prog 29 [vptr r 0] w (fun v w1 => ∃ (s : Str) (q : Nat), v = vstr s ∧ s.length ≤ 1000 ∧ q ≤ p0 + 300 ∧ Keep [r] w w1 ∧ w1.heap[r]? = some (rdo a l.length cap q)) := by
  refine Fn.enter (n := 27) Try.func29 rfl rfl rfl ?_
  show WC _ _ _ _ [(0, vptr r 0)] _
  have hH := Hp.at1 hr
  refine WC.seq ?_
  refine WC.region ?_
  refine WL.u rfl rfl (Wt.plain rfl) (Ex.assign rfl) ?_
  refine WL.next ?_
  refine WC.seq ?_
  refine WC.region ?_
  refine WL.u rfl rfl (Wt.plain rfl) (Ex.move rfl) ?_
  refine WL.u rfl rfl (Wt.plain rfl) (Ex.move rfl) ?_
  refine WL.call callable27 rfl (Wt.plain rfl) rfl rfl (spick _ _ _ _ _ 3 _ (hH.at 0 rfl) (hc.keepO hH.keep hca) hca hl (by omega) (by omega)) ?_
  rintro _ wn ⟨k6, rfl, hk6, hKK, ho⟩; replace hH := hH.turn hKK ho; clear hKK ho
  refine WL.u rfl rfl (Wt.plain rfl) ((Ex.add rfl rfl (by omega)).to (congrArg (Value.int IntKind.i64) (show _ = ((1 + k6 : Nat) : Int) by omega))) ?_
  refine WL.u rfl rfl (Wt.plain rfl) (Ex.move rfl) ?_
  refine WL.call callable27 rfl (Wt.plain rfl) rfl rfl (spick _ _ _ _ _ 3 _ (hH.at 0 rfl) (hc.keepO hH.keep hca) hca hl (by omega) (by omega)) ?_
  rintro _ wn ⟨k9, rfl, hk9, hKK, ho⟩; replace hH := hH.turn hKK ho; clear hKK ho
  refine WL.u rfl rfl (Wt.plain rfl) ((Ex.add rfl rfl (by omega)).to (congrArg (Value.int IntKind.i64) (show _ = ((1 + k9 : Nat) : Int) by omega))) ?_
  have hnm : (1 + k6) * (1 + k9) ≤ 9 := Nat.mul_le_mul (show 1 + k6 ≤ 3 by omega) (show 1 + k9 ≤ 3 by omega)
  refine WL.call callable41 rfl (Wt.plain rfl) rfl rfl (sl92Both r a l cap hca hl 9 (1 + k6) (1 + k9) _ _ (by omega) (by omega) (by omega) (by omega) hnm (hH.at 0 rfl) (hc.keepO hH.keep hca) (by omega)) ?_
  rintro _ wn ⟨s11, q11, rfl, hls11, hlq11, hKK, ho⟩; replace hH := hH.turn hKK ho; clear hKK ho
  refine WL.u rfl rfl (Wt.plain rfl) (Ex.assign rfl) ?_
  refine WL.next ?_
  refine WC.seq ?_
  refine WC.seq ?_
  refine WC.region ?_
  refine WL.u rfl rfl (Wt.plain rfl) (Ex.move rfl) ?_
  refine WL.call callable27 rfl (Wt.plain rfl) rfl rfl (spick _ _ _ _ _ 24 _ (hH.at 0 rfl) (hc.keepO hH.keep hca) hca hl (by omega) (by omega)) ?_
  rintro _ wn ⟨k13, rfl, hk13, hKK, ho⟩; replace hH := hH.turn hKK ho; clear hKK ho
  refine WL.next ?_
  refine WC.block ?_
  refine WC.seq ?_
  refine WC.region ?_
  refine WL.u rfl rfl (Wt.plain rfl) (Ex.eql rfl rfl) ?_
  refine WL.u rfl rfl (Wt.plain rfl) (Ex.assign rfl) ?_
  refine WL.next ?_
  refine WC.cond rfl (fun hc1 => ?_) (fun hc1 => ?_)
  · have hc1' := hc1; try simp only [decide_eq_true_eq, decide_eq_false_iff_not, Bool.not_eq_true', Bool.not_eq_false', Bool.not_eq_true, Bool.not_eq_false] at hc1'
    refine WC.seq ?_
    refine WC.region ?_
    refine WL.u rfl rfl (Wt.plain rfl) (Ex.move rfl) ?_
    refine WL.u rfl rfl (Wt.plain rfl) (Ex.move rfl) ?_
    refine WL.lit Try.underlying32 ty9 rfl rfl rfl rfl rfl rfl rfl (Wt.plain rfl) hH (fun b18 wn hb18 hk18 hH => ?_)
    have ho18 := Own.strsT ([[41], [114], [124]] : List Str) (by decide)
    replace hH := hH.f1
    refine WL.call callable28 rfl (Wt.plain rfl) rfl rfl (sofT _ _ _ _ _ _ ([[41], [114], [124]] : List Str) _ _ (hH.at 0 rfl) (hc.keepO hH.keep hca) hca hl (by omega) (ho18.slAt hH 1 rfl) (.inr fun p hp => by cases hp; exact hH.nin 1 0 rfl rfl rfl) (by decide)) ?_
    rintro _ wn ⟨t19, ht19, rfl, hKK, ho⟩; replace hH := hH.turn hKK ho; clear hKK ho; have hlt19 : t19.length ≤ 1 := (show ∀ s ∈ ([[41], [114], [124]] : List Str), s.length ≤ 1 by decide) _ ht19
    refine WL.u rfl rfl (Wt.plain rfl) (Ex.concat rfl rfl (by (try simp only [List.length_append, List.length_cons, List.length_nil]); omega)) ?_
    refine WL.u rfl rfl (Wt.plain rfl) (Ex.assign rfl) ?_
    refine WL.next ?_
    refine WC.ret ?_
    refine WN.retBlock ?_
    refine WN.retThen ?_
    refine WN.body1 rfl rfl ?_
    refine ⟨_, _, rfl, ?_, ?_, hH.keep, (hH.at 0 rfl)⟩
    · (try simp only [List.length_append, List.length_cons, List.length_nil]); omega
    · omega
  have hc1' := hc1; try simp only [decide_eq_true_eq, decide_eq_false_iff_not, Bool.not_eq_true', Bool.not_eq_false', Bool.not_eq_true, Bool.not_eq_false] at hc1'
  refine WC.seq ?_
  refine WC.region ?_
  refine WL.u rfl rfl (Wt.plain rfl) (Ex.eql rfl rfl) ?_
  refine WL.u rfl rfl (Wt.plain rfl) (Ex.assign rfl) ?_
  refine WL.next ?_
  refine WC.cond rfl (fun hc2 => ?_) (fun hc2 => ?_)
  · have hc2' := hc2; try simp only [decide_eq_true_eq, decide_eq_false_iff_not, Bool.not_eq_true', Bool.not_eq_false', Bool.not_eq_true, Bool.not_eq_false] at hc2'
    refine WC.seq ?_
    refine WC.region ?_
    refine WL.u rfl rfl (Wt.plain rfl) (Ex.move rfl) ?_
    refine WL.lit Try.underlying32 ty9 rfl rfl rfl rfl rfl rfl rfl (Wt.plain rfl) hH (fun b24 wn hb24 hk24 hH => ?_)
    have ho24 := Own.strsT ([[], [120], [40, 114, 41], [40, 114, 124, 102], [62], [40, 40, 114, 124, 102, 41, 45, 114, 41], [40, 40, 114, 45, 102, 41, 124, 102, 41], [40, 114, 124, 40, 114, 124, 40, 114, 124, 40, 114, 124, 40, 114, 124, 114, 41, 41, 41, 41, 41]] : List Str) (by decide)
    replace hH := hH.f1
    refine WL.call callable28 rfl (Wt.plain rfl) rfl rfl (sofT _ _ _ _ _ _ ([[], [120], [40, 114, 41], [40, 114, 124, 102], [62], [40, 40, 114, 124, 102, 41, 45, 114, 41], [40, 40, 114, 45, 102, 41, 124, 102, 41], [40, 114, 124, 40, 114, 124, 40, 114, 124, 40, 114, 124, 40, 114, 124, 114, 41, 41, 41, 41, 41]] : List Str) _ _ (hH.at 0 rfl) (hc.keepO hH.keep hca) hca hl (by omega) (ho24.slAt hH 1 rfl) (.inr fun p hp => by cases hp; exact hH.nin 1 0 rfl rfl rfl) (by decide)) ?_
    rintro _ wn ⟨t25, ht25, rfl, hKK, ho⟩; replace hH := hH.turn hKK ho; clear hKK ho; have hlt25 : t25.length ≤ 21 := (show ∀ s ∈ ([[], [120], [40, 114, 41], [40, 114, 124, 102], [62], [40, 40, 114, 124, 102, 41, 45, 114, 41], [40, 40, 114, 45, 102, 41, 124, 102, 41], [40, 114, 124, 40, 114, 124, 40, 114, 124, 40, 114, 124, 40, 114, 124, 114, 41, 41, 41, 41, 41]] : List Str), s.length ≤ 21 by decide) _ ht25
    refine WL.u rfl rfl (Wt.plain rfl) (Ex.assign rfl) ?_
    refine WL.next ?_
    refine WC.ret ?_
    refine WN.retBlock ?_
    refine WN.retThen ?_
    refine WN.body1 rfl rfl ?_
    refine ⟨_, _, rfl, ?_, ?_, hH.keep, (hH.at 0 rfl)⟩
    · (try simp only [List.length_append, List.length_cons, List.length_nil]); omega
    · omega
  have hc2' := hc2; try simp only [decide_eq_true_eq, decide_eq_false_iff_not, Bool.not_eq_true', Bool.not_eq_false', Bool.not_eq_true, Bool.not_eq_false] at hc2'
  refine WC.skip ?_
  refine WN.normalBlock ?_
  refine WN.next ?_
  refine WC.seq ?_
  refine WC.region ?_
  refine WL.u rfl rfl (Wt.plain rfl) (Ex.move rfl) ?_
  refine WL.u rfl rfl (Wt.plain rfl) (Ex.assign rfl) ?_
  refine WL.next ?_
  refine WC.ret ?_
  refine WN.body1 rfl rfl ?_
  refine ⟨_, _, rfl, ?_, ?_, hH.keep, (hH.at 0 rfl)⟩
  · (try simp only [List.length_append, List.length_cons, List.length_nil]); omega
  · omega

theorem sl92Word (a : Option Addr) (l : List UInt8) (cap : Nat) (w : World) (hc : Sl rByte w a l) (hcap : l.length ≤ cap) : Fn Try.prog 24 [.slice a l.length cap] w (fun v w1 => ∃ s, v = vstr s ∧ s.length ≤ 1000 ∧ Keep [] w w1) := by
  refine Fn.enter (n := 6) Try.func24 rfl rfl rfl ?_
  show WC _ _ _ _ [(0, .slice a l.length cap)] _
  have hH := Hp.start [] w
  replace hc := hc.take 2000
  have hl := List.length_take_le 2000 l
  refine WC.seq ?_
  refine WC.region ?_
  refine WL.u rfl rfl (Wt.plain rfl) (Ex.assign rfl) ?_
  refine WL.next ?_
  refine WC.seq ?_
  refine WC.region ?_
  refine WL.u rfl rfl (Wt.plain rfl) (Ex.move rfl) ?_
  refine WL.call callable26 rfl (Wt.plain rfl) rfl rfl (sl6Open a l cap _ hcap) ?_
  rintro _ wn ⟨r, rfl, hrn, hC, hro⟩; have hca := (hc.kept hH.keep).offNew hrn; replace hH := hH.push hC hrn hro; clear hC hro
  refine WL.call callable29 rfl (Wt.plain rfl) rfl rfl (sl92Text _ _ _ _ _  _ (hH.at 0 rfl) (hc.kept hH.keep) hca hl (by omega) ) ?_
  rintro _ wn ⟨s5, q5, rfl, hls5, hlq5, hKK, ho⟩; replace hH := hH.turn hKK ho; clear hKK ho
  refine WL.u rfl rfl (Wt.plain rfl) (Ex.assign rfl) ?_
  refine WL.next ?_
  refine WC.ret ?_
  refine WN.body1 rfl rfl ?_
  exact ⟨_, rfl, by omega, hH.keep⟩

theorem sDrawTermPairs (a : Option Addr) (l : List UInt8) (cap : Nat) (w : World) (hc : Sl rByte w a l) (hcap : l.length ≤ cap) : Fn Try.prog 14 [.slice a l.length cap] w (fun v w1 => ∃ s, v = vstr s ∧ s.length ≤ 1000 ∧ Keep [] w w1) := by
  refine Fn.enter (n := 5) Try.func14 rfl rfl rfl ?_
  show WC _ _ _ _ [(0, .slice a l.length cap)] _
  have hH := Hp.start [] w
  refine WC.seq ?_
  refine WC.region ?_
  refine WL.u rfl rfl (Wt.plain rfl) (Ex.assign rfl) ?_
  refine WL.next ?_
  refine WC.seq ?_
  refine WC.region ?_
  refine WL.u rfl rfl (Wt.plain rfl) (Ex.move rfl) ?_
  refine WL.call callable24 rfl (Wt.plain rfl) rfl rfl (sl92Word _ _ _ _ (hc.kept hH.keep) hcap) ?_
  rintro _ wn ⟨s4, rfl, hls4, hC⟩; replace hH := hH.call hC; clear hC
  refine WL.u rfl rfl (Wt.plain rfl) (Ex.assign rfl) ?_
  refine WL.next ?_
  refine WC.ret ?_
  refine WN.body1 rfl rfl ?_
  exact ⟨_, rfl, by assumption, hH.keep⟩

end Go.Proofs.Ytamkbmhgclpidaa

/- The laws: terms go on, sizes, grids of terms with signs. -/
namespace Go.Proofs.Ytamkbmhgclpidaa
set_option maxRecDepth 100000
set_option linter.unusedSimpArgs false
set_option linter.unusedVariables false
open Go Go.RowKit
theorem termIn_ex {s : Str} (h : termIn s = true) : ∃ t, termT s = some t := Option.isSome_iff_exists.1 h
theorem termIn_sign {c : UInt8} {s : Str} (hc : isU c = true) (hb : okL c = false) (h : termIn s = true) (hl : s.length ≤ 59) : termIn (c :: s) = true := by
  obtain ⟨t, ht⟩ := termIn_ex h
  unfold termIn
  rw [termT_sign hc hb ht hl]; rfl
theorem termIn_tail {s : Str} (c : UInt8) (h : termIn s = true) : termIn (s ++ [c]) = false := by
  obtain ⟨t, ht⟩ := termIn_ex h
  unfold termIn
  rw [termT_tail c ht]; rfl

end Go.Proofs.Ytamkbmhgclpidaa
