/- The laws' own words on lists of texts: marked, held. -/
import Derived.Test.YtnilefmlbedfcaaInts
import Derived.Test.YtnilefmlbedfcaaEach
namespace Go.Proofs.Ytnilefmlbedfcaa
set_option maxRecDepth 100000
set_option linter.unusedSimpArgs false
set_option linter.unusedVariables false
open Go Go.RowKit

/-- the digits of k ahead of a text -/
def decF : Nat → Nat → Str → Str
  | 0, _, acc => acc
  | f + 1, k, acc => if k = 0 then acc else decF f (k / 10) (UInt8.ofNat (48 + k % 10) :: acc)
def markT (k : Nat) : Str := if k = 0 then [109, 48] else 109 :: decF k k []
theorem decF_zero (f : Nat) (acc : Str) : decF f 0 acc = acc := by cases f <;> simp [decF]
def marksT (k : Nat) (n : Nat) : Grid := (List.range n).map fun i : Nat => markT (k + i)
theorem marksT_len (k n : Nat) : (marksT k n).length = n := by simp [marksT]
theorem marksT_get (k n i : Nat) (h : i < n) : (marksT k n).getD i [] = markT (k + i) := by
  unfold marksT
  rw [List.getD_eq_getElem?_getD, List.getElem?_map, List.getElem?_range h]; rfl
theorem marksT_of {g : Grid} {k n : Nat} (hl : g.length = n) (h : ∀ j, j < n → g.getD j [] = markT (k + j)) : g = marksT k n :=
  ext_getD (by rw [hl, marksT_len]) fun j hj => by rw [marksT_len] at hj; rw [h j hj, marksT_get k n j hj]
theorem decF_len : ∀ (f k : Nat) (acc : Str), (decF f k acc).length ≤ f + acc.length
  | 0, k, acc => by simp [decF]
  | f + 1, k, acc => by
    rw [decF]
    split
    · omega
    · have := decF_len f (k / 10) (UInt8.ofNat (48 + k % 10) :: acc)
      rw [List.length_cons] at this
      omega
theorem Own.byte1 (c : UInt8) : Own rByte [rByte.val c].toArray 1 [c] := ⟨by simp [show rByte.sz = 1 from rfl], by simp, by decide, by unfold Rw; rw [flat_one rfl]; rfl⟩
theorem byteOf (k : Nat) (h : k < 256) : IntKind.u8.wrap (k : Int) = ((UInt8.ofNat k).toNat : Int) := by
  rw [UInt8.toNat_ofNat_of_lt' h]
  exact IntWalk.u8_in _ ⟨by omega, by omega⟩

theorem markText (k : Nat) (w : World) (hk : k ≤ 10000000) : Fn Try.prog 72 [vint k] w (fun v w1 => v = vstr (markT k) ∧ Keep [] w w1) := by
  refine Fn.enter (n := 20) Try.func72 rfl rfl rfl ?_
  show WC _ _ _ _ [(0, vint k)] _
  have hH := Hp.start [] w
  refine WC.seq ?_
  refine WC.region ?_
  refine WL.u rfl rfl (Wt.plain rfl) (Ex.assign rfl) ?_
  refine WL.next ?_
  refine WC.seq ?_
  refine WC.seq ?_
  refine WC.region ?_
  refine WL.u rfl rfl (Wt.plain rfl) (Ex.move rfl) ?_
  refine WL.u rfl rfl (Wt.plain rfl) (Ex.leq rfl rfl) ?_
  refine WL.next ?_
  refine WC.cond rfl (fun hc1 => ?_) (fun hc1 => ?_)
  · have hc1' := hc1; try simp only [decide_eq_true_eq, decide_eq_false_iff_not, Bool.not_eq_true', Bool.not_eq_false', Bool.not_eq_true, Bool.not_eq_false] at hc1'
    refine WC.seq ?_
    refine WC.region ?_
    refine WL.u rfl rfl (Wt.plain rfl) (Ex.assign rfl) ?_
    refine WL.next ?_
    refine WC.ret ?_
    refine WN.retThen ?_
    refine WN.body1 rfl rfl ?_
    have e : k = 0 := by omega
    exact ⟨by rw [e]; rfl, hH.keep⟩
  have hc1' := hc1; try simp only [decide_eq_true_eq, decide_eq_false_iff_not, Bool.not_eq_true', Bool.not_eq_false', Bool.not_eq_true, Bool.not_eq_false] at hc1'
  have hk0 : k ≠ 0 := by omega
  refine WC.skip ?_
  refine WN.next ?_
  refine WC.seq ?_
  refine WC.region ?_
  refine WL.u rfl rfl (Wt.plain rfl) (Ex.assign rfl) ?_
  refine WL.next ?_
  refine WC.seq ?_
  refine WC.block ?_
  refine WC.loop (ι := Nat × Str × Nat) (fun (x, acc, f) => [(0, vint x), (3, vstr acc)]) (fun (x, acc, f) wn => Hp [] w wn [] ∧ decF f x acc = decF k k [] ∧ x ≤ f ∧ acc.length + f ≤ k) (fun (x, acc, f) => x) ((k, [], k)) (by exact ⟨rfl, rfl, trivial⟩) ?_ ?_
  · exact ⟨hH, rfl, Nat.le_refl _, by simp⟩
  rintro ⟨x, acc, f⟩ wn ⟨hH, hd, hxf, hal⟩
  intro mu0 hmu; try dsimp only at hmu
  show WC _ _ _ _ [(0, vint x), (3, vstr acc)] _
  refine WC.seq ?_
  refine WC.seq ?_
  refine WC.region ?_
  refine WL.u rfl rfl (Wt.plain rfl) (Ex.move rfl) ?_
  refine WL.u rfl rfl (Wt.plain rfl) (Ex.gtr rfl rfl) ?_
  refine WL.next ?_
  refine WC.cond rfl (fun hc2 => ?_) (fun hc2 => ?_)
  · have hc2' := hc2; try simp only [decide_eq_true_eq, decide_eq_false_iff_not, Bool.not_eq_true', Bool.not_eq_false', Bool.not_eq_true, Bool.not_eq_false] at hc2'
    have hf1 : f = (f - 1) + 1 := by omega
    have hbo := byteOf (48 + x % 10) (by omega)
    refine WC.skip ?_
    refine WN.next ?_
    refine WC.block ?_
    refine WC.seq ?_
    refine WC.region ?_
    refine WL.u rfl rfl (Wt.plain rfl) (Ex.move rfl) ?_
    refine WL.u rfl rfl (Wt.plain rfl) (Ex.rem rfl rfl (by omega) (by omega)) ?_
    refine WL.u rfl rfl (Wt.plain rfl) ((Ex.add rfl rfl (by omega)).to (congrArg (Value.int IntKind.i64) (show _ = ((48 + x % 10 : Nat) : Int) by omega))) ?_
    refine WL.u rfl rfl (Wt.plain rfl) ((Ex.conv Try.underlying5 Try.underlying3 rfl).to (congrArg (Value.int IntKind.u8) hbo)) ?_
    refine WL.lit Try.underlying32 ty5 rfl rfl rfl rfl rfl rfl rfl (Wt.plain rfl) hH (fun b12 wn hb12 hk12 hH => ?_)
    have ho12 := Own.byte1 (UInt8.ofNat (48 + x % 10))
    refine WL.u rfl rfl (Wt.plain rfl) (Ex.bytesStr Try.underlying32 Try.underlying5 Try.underlying9 rfl (ho12.slAt hH 0 rfl)) ?_
    refine WL.u rfl rfl (Wt.plain rfl) (Ex.move rfl) ?_
    refine WL.u rfl rfl (Wt.plain rfl) (Ex.concat rfl rfl (by simp only [List.length_singleton]; omega)) ?_
    refine WL.u rfl rfl (Wt.plain rfl) (Ex.assign rfl) ?_
    refine WL.next ?_
    refine WC.region ?_
    refine WL.u rfl rfl (Wt.plain rfl) (Ex.move rfl) ?_
    refine WL.u rfl rfl (Wt.plain rfl) (Ex.quo rfl rfl (by omega) (by omega)) ?_
    refine WL.u rfl rfl (Wt.plain rfl) (Ex.assign rfl) ?_
    refine WL.last ?_
    refine WN.normalBlock ?_
    replace hH := hH.first0
    refine WN.round (x / 10, UInt8.ofNat (48 + x % 10) :: acc, f - 1) (by exact ⟨congrArg (fun x : Int => some (vint x)) (show (x : Int) / 10 = ((x / 10 : Nat) : Int) by omega), rfl, trivial⟩) ?_ ?_
    · exact ⟨hH.first0, by rw [← hd, hf1, decF, if_neg (by omega), Nat.add_sub_cancel], by omega, by rw [List.length_cons]; omega⟩
    · (try dsimp only); omega
  have hc2' := hc2; try simp only [decide_eq_true_eq, decide_eq_false_iff_not, Bool.not_eq_true', Bool.not_eq_false', Bool.not_eq_true, Bool.not_eq_false] at hc2'
  refine WC.exit ?_
  refine WN.exitThen ?_
  refine WN.exitThen ?_
  refine WN.exitHere ?_
  refine WN.next ?_
  refine WC.seq ?_
  obtain rfl : x = 0 := by omega
  rw [decF_zero] at hd
  subst hd
  have hdl := decF_len k k []
  refine WC.region ?_
  refine WL.u rfl rfl (Wt.plain rfl) (Ex.move rfl) ?_
  refine WL.u rfl rfl (Wt.plain rfl) (Ex.concat rfl rfl (by simp only [List.length_cons, List.length_nil] at hdl ⊢; omega)) ?_
  refine WL.u rfl rfl (Wt.plain rfl) (Ex.assign rfl) ?_
  refine WL.next ?_
  refine WC.ret ?_
  refine WN.body1 rfl rfl ?_
  exact ⟨by rw [markT, if_neg hk0]; rfl, hH.keep⟩

theorem markStringS (b cap : Nat) (cur : Array Value) (l : Grid) (k : Nat) (w : World) (hb : w.heap[b]? = some (.cells cur 9 (0, 0))) (ho : Own rStr cur cap l) (hk : k ≤ 1000) (hl : l.length ≤ 2000000) : Fn Try.prog 38 [vsl b l.length cap, vint k] w (fun v w1 => ∃ cur1, v = vint (k + l.length : Nat) ∧ Keep [b] w w1 ∧ w1.heap[b]? = some (.cells cur1 9 (0, 0)) ∧ Own rStr cur1 cap (marksT k l.length)) := by
  refine Fn.enter (n := 20) Try.func38 rfl rfl rfl ?_
  show WC _ _ _ _ [(0, vsl b l.length cap), (1, vint k)] _
  have hH := Hp.at1 hb
  refine WC.seq ?_
  refine WC.region ?_
  refine WL.u rfl rfl (Wt.plain rfl) (Ex.assign rfl) ?_
  refine WL.next ?_
  refine WC.seq ?_
  refine WC.seq ?_
  refine WC.region ?_
  refine WL.u rfl rfl (Wt.plain rfl) (Ex.assign rfl) ?_
  refine WL.next ?_
  refine WC.block ?_
  refine WC.loop (ι := Nat × (Array Value) × Grid) (fun (i, cur, m) => [(0, vsl b l.length cap), (1, vint (k + i : Nat)), (5, vint i)]) (fun (i, cur, m) wn => Hp [b] w wn [(b, .cells cur 9 (0, 0))] ∧ Own rStr cur cap m ∧ m.length = l.length ∧ i ≤ l.length ∧ ∀ j, j < i → m.getD j [] = markT (k + j)) (fun (i, cur, m) => l.length - i) ((0, cur, l)) (by exact ⟨rfl, rfl, rfl, trivial⟩) ?_ ?_
  · exact ⟨hH, ho, rfl, by omega, fun j hj => by omega⟩
  rintro ⟨i, cur, m⟩ wn ⟨hH, hoa, hml, hi, hI⟩
  intro mu0 hmu; try dsimp only at hmu
  show WC _ _ _ _ [(0, vsl b l.length cap), (1, vint (k + i : Nat)), (5, vint i)] _
  refine WC.seq ?_
  refine WC.seq ?_
  refine WC.region ?_
  refine WL.u rfl rfl (Wt.plain rfl) (Ex.move rfl) ?_
  refine WL.u rfl rfl (Wt.plain rfl) (Ex.move rfl) ?_
  refine WL.u rfl rfl (Wt.plain rfl) (Ex.lenSl Try.underlying22 rfl) ?_
  refine WL.u rfl rfl (Wt.plain rfl) (Ex.lss rfl rfl) ?_
  refine WL.next ?_
  refine WC.cond rfl (fun hc1 => ?_) (fun hc1 => ?_)
  · have hc1' := hc1; try simp only [decide_eq_true_eq, decide_eq_false_iff_not, Bool.not_eq_true', Bool.not_eq_false', Bool.not_eq_true, Bool.not_eq_false] at hc1'
    have hlt : i < l.length := by omega
    refine WC.skip ?_
    refine WN.next ?_
    refine WC.seq ?_
    refine WC.block ?_
    refine WC.seq ?_
    refine WC.region ?_
    refine WL.u rfl rfl (Wt.plain rfl) (Ex.move rfl) ?_
    refine WL.u rfl rfl (Wt.plain rfl) (Ex.move rfl) ?_
    refine WL.u rfl rfl (Wt.plain rfl) (Ex.move rfl) ?_
    refine WL.call callable72 rfl (Wt.plain rfl) rfl rfl (markText (k + i) _ (by omega)) ?_
    rintro _ wn ⟨rfl, hC⟩; replace hH := hH.call hC; clear hC
    refine WL.u rfl rfl (Wt.plain rfl) (Ex.indexAddr Try.underlying22 ty9 rfl rfl (by omega)) ?_
    refine WL.store1 ty9 rfl rfl rfl (Wt.plain rfl) hH (hoa.idx rfl (by omega)) (by simp) (fun wn hk hH => ?_)
    replace hoa := hoa.set rfl i (markT (k + i))
    refine WL.next ?_
    refine WC.region ?_
    refine WL.u rfl rfl (Wt.plain rfl) (Ex.move rfl) ?_
    refine WL.u rfl rfl (Wt.plain rfl) (Ex.add rfl rfl (by omega)) ?_
    refine WL.u rfl rfl (Wt.plain rfl) (Ex.assign rfl) ?_
    refine WL.last ?_
    refine WN.normalBlock ?_
    refine WN.next ?_
    refine WC.region ?_
    refine WL.u rfl rfl (Wt.plain rfl) (Ex.move rfl) ?_
    refine WL.u rfl rfl (Wt.plain rfl) (Ex.add rfl rfl (by omega)) ?_
    refine WL.u rfl rfl (Wt.plain rfl) (Ex.assign rfl) ?_
    refine WL.last ?_
    refine WN.round (i + 1, cur.setIfInBounds (0 + (i : Int).toNat * 1) (rStr.val (markT (k + i))), m.set i (markT (k + i))) (by exact ⟨rfl, congrArg (fun x => some (Value.int IntKind.i64 x)) (show ((k + i : Nat) : Int) + 1 = ((k + (i + 1) : Nat) : Int) by omega), rfl, trivial⟩) ?_ ?_
    · refine ⟨hH, hoa, by simp [hml], by omega, fun j hj => ?_⟩
      rcases Nat.lt_succ_iff_lt_or_eq.1 hj with h | rfl
      · rw [List.getD_eq_getElem?_getD, List.getElem?_set_ne (by omega), ← List.getD_eq_getElem?_getD]; exact hI j h
      · rw [List.getD_eq_getElem?_getD, List.getElem?_set_self (by omega)]; rfl
    · (try dsimp only); omega
  have hc1' := hc1; try simp only [decide_eq_true_eq, decide_eq_false_iff_not, Bool.not_eq_true', Bool.not_eq_false', Bool.not_eq_true, Bool.not_eq_false] at hc1'
  refine WC.exit ?_
  refine WN.exitThen ?_
  refine WN.exitThen ?_
  refine WN.exitHere ?_
  refine WN.next ?_
  refine WC.seq ?_
  refine WC.region ?_
  refine WL.u rfl rfl (Wt.plain rfl) (Ex.move rfl) ?_
  refine WL.u rfl rfl (Wt.plain rfl) (Ex.assign rfl) ?_
  refine WL.next ?_
  refine WC.ret ?_
  refine WN.body1 rfl rfl ?_
  have hieq : i = l.length := by omega
  rw [hieq] at hI ⊢
  exact ⟨cur, rfl, hH.keep, hH.at 0 rfl, by rw [← marksT_of hml hI]; exact hoa⟩

theorem heldStringS (a : Option Addr) (cap : Nat) (k : Nat) (n : Nat) (w : World) (hg : Sl rStr w a (marksT k n)) (hk : k ≤ 1000) (hn : n ≤ 2000000) : Fn Try.prog 39 [.slice a n cap, vint k] w (fun v w1 => v = vint (k + n : Nat) ∧ Keep [] w w1) := by
  refine Fn.enter (n := 22) Try.func39 rfl rfl rfl ?_
  show WC _ _ _ _ [(0, .slice a n cap), (1, vint k)] _
  have hH := Hp.start [] w
  refine WC.seq ?_
  refine WC.region ?_
  refine WL.u rfl rfl (Wt.plain rfl) (Ex.assign rfl) ?_
  refine WL.next ?_
  refine WC.seq ?_
  refine WC.seq ?_
  refine WC.region ?_
  refine WL.u rfl rfl (Wt.plain rfl) (Ex.assign rfl) ?_
  refine WL.next ?_
  refine WC.block ?_
  refine WC.loop (ι := Nat) (fun i => [(0, .slice a n cap), (1, vint (k + i : Nat)), (5, vint i)]) (fun i wn => Hp [] w wn [] ∧ i ≤ n) (fun i => n - i) (0) (by exact ⟨rfl, rfl, rfl, trivial⟩) ?_ ?_
  · exact ⟨hH, by omega⟩
  rintro i wn ⟨hH, hi⟩
  intro mu0 hmu; try dsimp only at hmu
  show WC _ _ _ _ [(0, .slice a n cap), (1, vint (k + i : Nat)), (5, vint i)] _
  refine WC.seq ?_
  refine WC.seq ?_
  refine WC.region ?_
  refine WL.u rfl rfl (Wt.plain rfl) (Ex.move rfl) ?_
  refine WL.u rfl rfl (Wt.plain rfl) (Ex.move rfl) ?_
  refine WL.u rfl rfl (Wt.plain rfl) (Ex.lenSl Try.underlying22 rfl) ?_
  refine WL.u rfl rfl (Wt.plain rfl) (Ex.lss rfl rfl) ?_
  refine WL.next ?_
  refine WC.cond rfl (fun hc1 => ?_) (fun hc1 => ?_)
  · have hc1' := hc1; try simp only [decide_eq_true_eq, decide_eq_false_iff_not, Bool.not_eq_true', Bool.not_eq_false', Bool.not_eq_true, Bool.not_eq_false] at hc1'
    have hlt : i < n := by omega
    obtain ⟨b, off, rfl⟩ := hg.addr (by rw [marksT_len]; omega)
    have hget : (marksT k n)[i]? = some (markT (k + i)) := by have := getD_get (marksT k n) i [] (by rw [marksT_len]; exact hlt); rw [this, marksT_get k n i hlt]
    refine WC.skip ?_
    refine WN.next ?_
    refine WC.seq ?_
    refine WC.block ?_
    refine WC.seq ?_
    refine WC.seq ?_
    refine WC.quietK rfl (by kernel_rfl) ?_
    refine WQ.u rfl rfl (Wt.plain rfl) (fun w hC => Ex.move rfl) ?_
    refine WQ.u rfl rfl (Wt.plain rfl) (fun w hC => Ex.move rfl) ?_
    refine WQ.u rfl rfl (Wt.plain rfl) (fun w hC => Ex.indexAddr Try.underlying22 ty9 rfl rfl (by omega)) ?_
    refine WQ.u rfl rfl (Wt.plain rfl) (fun w hC => Ex.loadSl flat9 ((hg.kept hH.keep).kept hC) rfl rfl (hget)) ?_
    refine WQ.u rfl rfl (Wt.plain rfl) (fun w hC => Ex.move rfl) ?_
    refine WQ.call callable72 rfl (Wt.plain rfl) rfl rfl (fun w hC => Fn.k hC (markText _ _ (by omega))) ?_
    refine WQ.u rfl rfl (Wt.plain rfl) (fun w hC => Ex.neqStr rfl rfl) ?_
    refine WQ.nil ?_
    intro wn hC; replace hH := hH.call hC; clear hC
    refine WN.next ?_
    refine WC.condF rfl (by simp) ?_
    refine WC.skip ?_
    refine WN.next ?_
    refine WC.region ?_
    refine WL.u rfl rfl (Wt.plain rfl) (Ex.move rfl) ?_
    refine WL.u rfl rfl (Wt.plain rfl) (Ex.add rfl rfl (by omega)) ?_
    refine WL.u rfl rfl (Wt.plain rfl) (Ex.assign rfl) ?_
    refine WL.last ?_
    refine WN.normalBlock ?_
    refine WN.next ?_
    refine WC.region ?_
    refine WL.u rfl rfl (Wt.plain rfl) (Ex.move rfl) ?_
    refine WL.u rfl rfl (Wt.plain rfl) (Ex.add rfl rfl (by omega)) ?_
    refine WL.u rfl rfl (Wt.plain rfl) (Ex.assign rfl) ?_
    refine WL.last ?_
    refine WN.round (i + 1) (by exact ⟨rfl, congrArg (fun x => some (Value.int IntKind.i64 x)) (show ((k + i : Nat) : Int) + 1 = ((k + (i + 1) : Nat) : Int) by omega), rfl, trivial⟩) ?_ ?_
    · exact ⟨hH, by omega⟩
    · (try dsimp only); omega
  have hc1' := hc1; try simp only [decide_eq_true_eq, decide_eq_false_iff_not, Bool.not_eq_true', Bool.not_eq_false', Bool.not_eq_true, Bool.not_eq_false] at hc1'
  refine WC.exit ?_
  refine WN.exitThen ?_
  refine WN.exitThen ?_
  refine WN.exitHere ?_
  refine WN.next ?_
  refine WC.seq ?_
  refine WC.region ?_
  refine WL.u rfl rfl (Wt.plain rfl) (Ex.move rfl) ?_
  refine WL.u rfl rfl (Wt.plain rfl) (Ex.assign rfl) ?_
  refine WL.next ?_
  refine WC.ret ?_
  refine WN.body1 rfl rfl ?_
  have hieq : i = n := by omega
  rw [hieq]
  exact ⟨rfl, hH.keep⟩

end Go.Proofs.Ytnilefmlbedfcaa
