/- Arguments that came in, as the lists that they read as. -/
import Derived.Test.YtmlkabddhdkpaaaBase
import Derived.Test.YtmlkabddhdkpaaaChecked
import Derived.ProofKit
import Derived.OpenShut
import Derived.ShutString
import Derived.ChangeOld
import Derived.Below
namespace Go.Proofs.Ytmlkabddhdkpaaa
set_option maxRecDepth 100000
set_option linter.unusedSimpArgs false
set_option linter.unusedVariables false
open Go Go.ChangeShapes Go.WideShapes Go.ChangeAt Go.RowKit

theorem openOwn : ownKnob Try.prog.godebug = none := by kernel_rfl
theorem openLaidOut : laidOutB Try.prog = true := by kernel_rfl

theorem spot_none {w : World} {b off : Nat} {s : Option Nat} {v : Value} (h : w.cell? ((⟨b, off, s⟩ : Addr).add 0) = some v) : s = none := by
  have := World.cell?_spot h
  simpa [Addr.add] using this

/-- what is known of a list of strings that came in -/
def InStrs (w : World) (a : Option Addr) (len : Nat) (g : List (List UInt8)) : Prop := len = g.length ∧ Sl rStr w a g ∧ ∀ i, ((g.getD i []).length : Int) ≤ 9223372036854775807

theorem inStrs_nil (w : World) (a : Option Addr) : InStrs w a 0 [] := ⟨rfl, Sl.nil rStr w a, fun i => by simp⟩
theorem inStrs_some {w : World} {x : Addr} {len cap : Nat} {ss : List ByteArray} (hl : len ≤ cap) (hm : cap ≤ maxLen) (hz : ss.length = cap) (hc : ∀ i, i < ss.length → w.cell? (x.add i) = some (.string (ss.getD i ByteArray.empty))) (hs : ∀ s ∈ ss, s.size ≤ maxLen) :
    InStrs w (some x) len ((ss.take len).map fun s => s.data.toList) := by
  simp only [maxLen] at hm hs
  refine ⟨by simp; omega, ⟨by simp; omega, ?_⟩, fun i => ?_⟩
  · by_cases h0 : len = 0
    · left; subst h0; simp
    · right
      obtain ⟨b, off, spot⟩ := x
      have hsp := spot_none (hc 0 (by omega))
      subst hsp
      refine ⟨b, off, rfl, fun j u hu => ?_⟩
      rw [show rStr = rStr from rfl] at hu
      have hfl : ((ss.take len).map fun s => s.data.toList).flatMap rStr.cells = (ss.take len).map fun s => Value.string s := by
        rw [flat_one (r := rStr) rfl, List.map_map]
        apply List.map_congr_left
        intro s _
        show Value.string (ByteArray.mk s.data.toList.toArray) = Value.string s
        rw [Array.toArray_toList]
      rw [hfl, List.getElem?_map] at hu
      have hj : j < len := by
        rcases Nat.lt_or_ge j len with h | h
        · exact h
        · rw [List.getElem?_eq_none (by simp; omega)] at hu; simp at hu
      rw [List.getElem?_take_of_lt hj] at hu
      have := hc j (by omega)
      rw [Addr.add_lit] at this
      rw [this]
      rw [List.getElem?_eq_getElem (by omega), Option.map_some] at hu
      rw [List.getD_eq_getElem?_getD, List.getElem?_eq_getElem (by omega), Option.getD_some]
      exact hu
  · rw [List.getD_eq_getElem?_getD, List.getElem?_map]
    cases h : (ss.take len)[i]? with
    | none => simp
    | some s =>
      have hmem := List.mem_of_mem_take (List.mem_of_getElem? h)
      have := hs s hmem
      simp only [Option.map_some, Option.getD_some, Array.length_toList]
      have e : s.data.size = s.size := rfl
      omega

/-- what is known of a list of bytes that came in -/
def InBytes (w : World) (a : Option Addr) (len cap : Nat) (l : List UInt8) : Prop := len = l.length ∧ Sl rByte w a l ∧ len ≤ cap
def InInts (w : World) (a : Option Addr) (len : Nat) (l : List Int) : Prop := len = l.length ∧ Sl rInt w a l ∧ ∀ x ∈ l, -9223372036854775808 ≤ x ∧ x ≤ 9223372036854775807
theorem inBytes_nil (w : World) (a : Option Addr) : InBytes w a 0 0 [] := ⟨rfl, Sl.nil rByte w a, Nat.le_refl _⟩
theorem inInts_nil (w : World) (a : Option Addr) : InInts w a 0 [] := ⟨rfl, Sl.nil rInt w a, by simp⟩
theorem sl_some {α : Type} {r : Rep α} (h1 : r.sz = 1) {w : World} {x : Addr} {len cap : Nat} {k : IntKind} {zs : List Int} (f : Int → α) (hl : len ≤ cap) (hm : cap ≤ maxLen) (hz : zs.length = cap) (hc : ∀ i, i < zs.length → w.cell? (x.add i) = some (.int k (zs.getD i 0))) (hf : ∀ n ∈ zs, r.val (f n) = .int k n) :
    len = ((zs.take len).map f).length ∧ Sl r w (some x) ((zs.take len).map f) := by
  simp only [maxLen] at hm
  refine ⟨by simp; omega, by simp; omega, ?_⟩
  by_cases h0 : len = 0
  · left; subst h0; simp
  · right
    obtain ⟨b, off, spot⟩ := x
    have hsp := spot_none (hc 0 (by omega))
    subst hsp
    refine ⟨b, off, rfl, fun j u hu => ?_⟩
    rw [flat_one h1, List.map_map, List.getElem?_map] at hu
    have hj : j < len := by
      rcases Nat.lt_or_ge j len with h | h
      · exact h
      · rw [List.getElem?_eq_none (by simp; omega)] at hu; simp at hu
    rw [List.getElem?_take_of_lt hj, List.getElem?_eq_getElem (show j < zs.length by omega), Option.map_some] at hu
    have := hc j (by omega)
    rw [Addr.add_lit] at this
    rw [this, List.getD_eq_getElem?_getD, List.getElem?_eq_getElem (show j < zs.length by omega), Option.getD_some]
    rw [← hu]
    simp only [Function.comp]
    rw [hf _ (List.getElem_mem _)]
theorem inBytes_some {w : World} {x : Addr} {len cap : Nat} {zs : List Int} (hl : len ≤ cap) (hm : cap ≤ maxLen) (hz : zs.length = cap) (hc : ∀ i, i < zs.length → w.cell? (x.add i) = some (.int .u8 (zs.getD i 0))) (hw : ∀ n ∈ zs, (Lit.int .u8 n).wf = true) :
    InBytes w (some x) len cap ((zs.take len).map fun n => UInt8.ofNat n.toNat) :=
  have h0 := sl_some (r := rByte) rfl (fun n : Int => UInt8.ofNat n.toNat) hl hm hz hc fun n hn => by
    have h := hw n hn
    simp only [Lit.wf, Bool.and_eq_true, decide_eq_true_eq] at h
    have h1 : IntKind.u8.min = 0 := rfl
    have h2 : IntKind.u8.max = 255 := rfl
    rw [h1, h2] at h
    show Value.int .u8 ((UInt8.ofNat n.toNat).toNat : Int) = _
    rw [UInt8.toNat_ofNat_of_lt' (by show n.toNat < 256; omega)]
    congr 1; omega
  ⟨h0.1, h0.2, hl⟩
theorem inInts_some {w : World} {x : Addr} {len cap : Nat} {zs : List Int} (hl : len ≤ cap) (hm : cap ≤ maxLen) (hz : zs.length = cap) (hc : ∀ i, i < zs.length → w.cell? (x.add i) = some (.int .i64 (zs.getD i 0))) (hw : ∀ n ∈ zs, (Lit.int .i64 n).wf = true) :
    InInts w (some x) len (zs.take len) := by
  have h := sl_some (r := rInt) rfl (fun n => n) hl hm hz hc (fun n _ => rfl)
  rw [List.map_id'] at h
  refine ⟨h.1, h.2, fun n hn => ?_⟩
  have h := hw n (List.mem_of_mem_take hn)
  simp only [Lit.wf, Bool.and_eq_true, decide_eq_true_eq] at h
  have h1 : IntKind.i64.min = -9223372036854775808 := rfl
  have h2 : IntKind.i64.max = 9223372036854775807 := rfl
  rw [h1, h2] at h
  exact h
theorem wf_bounds {n : Int} (h : (Lit.int .i64 n).wf = true) : -9223372036854775808 ≤ n ∧ n ≤ 9223372036854775807 := by
  simp only [Lit.wf, Bool.and_eq_true, decide_eq_true_eq] at h
  exact h
theorem endOf {P : Program} {f : FuncId} {args : List Value} {w : World} (h : Fn P f args w (fun v w1 => v = .bool true ∧ Keep [] w w1)) : Calls P f args.toArray w fun e w' => e = .returned (.bool true) ∧ Below w.heap.size w w' :=
  Calls.mono h fun e w' r => by
    cases e with
    | returned v => exact ⟨by rw [r.1], r.2.below⟩
    | panicked _ => exact r.elim
    | outgrown => exact r.elim
end Go.Proofs.Ytmlkabddhdkpaaa
