/- Lists of pairings with their counts in memory: rows of two heads; what they hold stands in blocks that do not turn. -/
import Derived.Test.YtmlkabddhdkpaaaHd
import Derived.Test.YtmlkabddhdkpaaaJnV
import Derived.Test.YtmlkabddhdkpaaaRnd4
import Derived.Test.YtmlkabddhdkpaaaAsk
namespace Go.Proofs.Ytmlkabddhdkpaaa
set_option maxRecDepth 100000
set_option linter.unusedSimpArgs false
set_option linter.unusedVariables false
open Go Go.RowKit
def hdV (h : Hd) : Value := .slice h.1 h.2.1 h.2.2
def rSt : Rep (Hd × Hd) := ⟨2, fun q => [hdV q.1, hdV q.2], fun q => .agg #[hdV q.1, hdV q.2], fun _ => rfl, by decide, fun q u h => by
  simp only [List.mem_cons, List.not_mem_nil, or_false] at h
  rcases h with rfl | rfl <;> rfl, fun _ => rfl, fun h => by cases h⟩
def hd2 : Hd × Hd := (hd0, hd0)
section
variable {S : List Nat} {w0 w : World} {L L' : List (Nat × Obj)}
theorem Hp.perm (h : Hp S w0 w L) (p : L.Perm L') : Hp S w0 w L' := ⟨h.keep, fun q hq => h.mem q (p.mem_iff.2 hq), fun q hq => h.own q (p.mem_iff.2 hq), (p.map _).nodup_iff.1 h.nodup⟩
/-- what comes between goes behind -/
theorem Hp.mid1 {s a : Nat × Obj} {X T : List (Nat × Obj)} (h : Hp S w0 w (s :: (X ++ (a :: T)))) : Hp S w0 w (s :: a :: (X ++ T)) := h.perm (List.Perm.cons _ List.perm_middle)
theorem Hp.mid2 {s a b : Nat × Obj} {X T : List (Nat × Obj)} (h : Hp S w0 w (s :: (X ++ (a :: b :: T)))) : Hp S w0 w (s :: a :: b :: (X ++ T)) := h.mid1.perm (List.Perm.cons _ (List.Perm.cons _ List.perm_middle))
theorem Hp.sl {α : Type} {r : Rep α} {b cap : Nat} {cur : Array Value} {e : TypeId} {fr : Nat × Nat} {l : List α} (h : Hp S w0 w L) (hm : (b, Obj.cells cur e fr) ∈ L) (ho : Own r cur cap l) : Sl r w (some ⟨b, 0, none⟩) l := ho.sl0 (h.mem _ hm)
end
theorem Own.getC {α : Type} {r : Rep α} {cur : Array Value} {cap : Nat} {l : List α} (o : Own r cur cap l) {i k : Nat} {x : α} {u : Value} (hx : l[i]? = some x) (hu : (r.cells x)[k]? = some u) : cur[0 + (i : Int).toNat * r.sz + k]? = some u := by
  have h := o.rw
  unfold Rw at h
  have hk : k < r.sz := by rw [← r.len x]; exact (List.getElem?_eq_some_iff.1 hu).1
  have h2 := (flat_get r l i k x hx hk).trans hu
  rw [← h] at h2
  rw [Int.toNat_natCast, Nat.zero_add]
  rw [List.getElem?_take] at h2
  split at h2
  · simpa using h2
  · cases h2
theorem Own.idx2 {cur : Array Value} {cap i : Nat} {l : List (Hd × Hd)} (o : Own rSt cur cap l) (hi : i < l.length) : 0 + (i : Int).toNat * 2 + 1 < cur.size := by
  have h1 := o.size
  have h2 := o.le
  rw [show rSt.sz = 2 from rfl] at h1
  rw [Int.toNat_natCast]; omega
theorem flat_set (l : List (Hd × Hd)) (i : Nat) (h : Hd) (hi : i < l.length) : (l.set i ((l.getD i hd2).1, h)).flatMap rSt.cells = (l.flatMap rSt.cells).set (i * 2 + 1) (hdV h) := by
  induction l generalizing i with
  | nil => simp at hi
  | cons q l ih =>
    cases i with
    | zero =>
      show [hdV q.1, hdV h] ++ l.flatMap rSt.cells = ([hdV q.1, hdV q.2] ++ l.flatMap rSt.cells).set 1 (hdV h)
      rfl
    | succ i =>
      have := ih i (by simpa using hi)
      have e : (q :: l).getD (i + 1) hd2 = l.getD i hd2 := rfl
      rw [e, List.set_cons_succ, List.flatMap_cons, List.flatMap_cons, this]
      show [hdV q.1, hdV q.2] ++ _ = ([hdV q.1, hdV q.2] ++ _).set ((i + 1) * 2 + 1) _
      rw [show (i + 1) * 2 + 1 = (i * 2 + 1) + 1 + 1 by omega]
      rfl
theorem Own.set2 {cur : Array Value} {cap i : Nat} {l : List (Hd × Hd)} (o : Own rSt cur cap l) (hi : i < l.length) (h : Hd) : Own rSt (cur.setIfInBounds (0 + (i : Int).toNat * 2 + 1) (hdV h)) cap (l.set i ((l.getD i hd2).1, h)) := by
  refine ⟨by simp [o.size], by simp [o.le], o.max, ?_⟩
  have hr := o.rw
  unfold Rw at *
  rw [flat_set l i h hi, ← hr, Int.toNat_natCast, Nat.zero_add, Array.toList_setIfInBounds, List.length_set, List.take_set]
/-- the head of a row of numbers in a block of T -/
def InT (T : List (Nat × Obj)) (h : Hd) (l : List Int) : Prop := ∃ b cap cur, h = (some ⟨b, 0, none⟩, l.length, cap) ∧ (b, Obj.cells cur 3 (0, 0)) ∈ T ∧ Own rInt cur cap l
theorem InT.mono {T T' : List (Nat × Obj)} {h : Hd} {l : List Int} (a : InT T h l) (hs : ∀ x ∈ T, x ∈ T') : InT T' h l := by
  obtain ⟨b, cap, cur, h1, h2, h3⟩ := a
  exact ⟨b, cap, cur, h1, hs _ h2, h3⟩
theorem InT.drop {T X : List (Nat × Obj)} {b : Nat} {cur : Array Value} {e : TypeId} {h : Hd} {l : List Int} (a : InT (X ++ (b, Obj.cells cur e (0, 0)) :: T) h l) (he : e ≠ 3) : InT (X ++ T) h l := by
  obtain ⟨b', cap, cur', h1, h2, h3⟩ := a
  refine ⟨b', cap, cur', h1, ?_, h3⟩
  rcases List.mem_append.1 h2 with h4 | h4
  · exact List.mem_append.2 (.inl h4)
  · rcases List.mem_cons.1 h4 with h5 | h5
    · injection h5 with _ h6
      injection h6 with _ h7 _
      exact absurd h7.symm he
    · exact List.mem_append.2 (.inr h5)
structure Sts (T : List (Nat × Obj)) (hs : List (Hd × Hd)) (L : List Ste) : Prop where
  len : hs.length = L.length
  get : ∀ i, i < L.length → InT T (hs.getD i hd2).1 (L.getD i sd0).1 ∧ InT T (hs.getD i hd2).2 (L.getD i sd0).2
theorem Sts.nil (T : List (Nat × Obj)) : Sts T [] [] := ⟨rfl, fun i hi => by simp at hi⟩
theorem Sts.mono {T T' : List (Nat × Obj)} {hs : List (Hd × Hd)} {L : List Ste} (a : Sts T hs L) (h : ∀ x ∈ T, x ∈ T') : Sts T' hs L := ⟨a.len, fun i hi => ⟨(a.get i hi).1.mono h, (a.get i hi).2.mono h⟩⟩
theorem Sts.drop {T X : List (Nat × Obj)} {b : Nat} {cur : Array Value} {e : TypeId} {hs : List (Hd × Hd)} {L : List Ste} (a : Sts (X ++ (b, Obj.cells cur e (0, 0)) :: T) hs L) (he : e ≠ 3) : Sts (X ++ T) hs L := ⟨a.len, fun i hi => ⟨(a.get i hi).1.drop he, (a.get i hi).2.drop he⟩⟩
theorem h2_append (hs : List (Hd × Hd)) (s : Hd × Hd) (i : Nat) : (hs ++ [s]).getD i hd2 = if i < hs.length then hs.getD i hd2 else if i = hs.length then s else hd2 := by
  rw [List.getD_eq_getElem?_getD, List.getElem?_append]
  by_cases h : i < hs.length
  · rw [if_pos h, if_pos h, List.getD_eq_getElem?_getD]
  · rw [if_neg h, if_neg h]
    by_cases h2 : i = hs.length
    · rw [if_pos h2, h2, Nat.sub_self]; rfl
    · rw [if_neg h2, List.getElem?_eq_none (by simp; omega)]; rfl
theorem h2_set (hs : List (Hd × Hd)) (a : Nat) (s : Hd × Hd) (i : Nat) (ha : a < hs.length) : (hs.set a s).getD i hd2 = if a = i then s else hs.getD i hd2 := by
  rw [List.getD_eq_getElem?_getD, List.getElem?_set, List.getD_eq_getElem?_getD]
  by_cases h : a = i
  · rw [if_pos h, if_pos (by omega), if_pos h]; rfl
  · rw [if_neg h, if_neg h]
theorem Sts.snoc {T : List (Nat × Obj)} {hs : List (Hd × Hd)} {L : List Ste} (a : Sts T hs L) {q : Hd × Hd} {s : Ste} (h1 : InT T q.1 s.1) (h2 : InT T q.2 s.2) : Sts T (hs ++ [q]) (L ++ [s]) := by
  refine ⟨by simp [a.len], fun i hi => ?_⟩
  rw [h2_append, st_append, a.len]
  by_cases h : i < L.length
  · rw [if_pos h, if_pos h]; exact a.get i h
  · simp at hi
    rw [if_neg h, if_neg h, if_pos (by omega), if_pos (by omega)]
    exact ⟨h1, h2⟩
theorem Sts.set {T : List (Nat × Obj)} {hs : List (Hd × Hd)} {L : List Ste} (a : Sts T hs L) {i : Nat} (hi : i < L.length) {h : Hd} {l : List Int} (hl : InT T h l) : Sts T (hs.set i ((hs.getD i hd2).1, h)) (L.set i ((L.getD i sd0).1, l)) := by
  refine ⟨by simp [a.len], fun j hj => ?_⟩
  rw [List.length_set] at hj
  rw [h2_set _ _ _ _ (by rw [a.len]; exact hi), st_set _ _ _ _ hi]
  by_cases e : i = j
  · rw [if_pos e, if_pos e]; exact ⟨(a.get i hi).1, hl⟩
  · rw [if_neg e, if_neg e]; exact a.get j hj
theorem put_succ (L : List Ste) (P C : List Int) (r i : Nat) : putL L P C r (i + 1) = (putL L P C r i).set (atF L P L.length) (((putL L P C r i).getD (atF L P L.length) sd0).1, addsL ((preL L P).getD (atF L P L.length) sd0).2 C r (i + 1)) := by
  rw [put_get, if_pos rfl]
  unfold putL
  rw [List.set_set, (pre_at L P).2]
/-- bounds of what is added to -/
theorem adds_bd {L : List Ste} {P C : List Int} {r i : Nat} (hL : ∀ i, i < L.length → (L.getD i sd0).2.length ≤ 600 ∧ ∀ j, 0 ≤ (L.getD i sd0).2.getD j 0 ∧ (L.getD i sd0).2.getD j 0 ≤ 512) (hC : C.length ≤ 600 ∧ ∀ j, 0 ≤ C.getD j 0 ∧ C.getD j 0 ≤ 512) (hr : r ≤ 100) (hi : i ≤ C.length) :
    (addsL ((preL L P).getD (atF L P L.length) sd0).2 C r i).length ≤ 1000 ∧ ∀ j, -1000000 ≤ (addsL ((preL L P).getD (atF L P L.length) sd0).2 C r i).getD j 0 ∧ (addsL ((preL L P).getD (atF L P L.length) sd0).2 C r i).getD j 0 ≤ 1000000 := by
  have h0 : ((preL L P).getD (atF L P L.length) sd0).2.length ≤ 600 ∧ ∀ j, 0 ≤ ((preL L P).getD (atF L P L.length) sd0).2.getD j 0 ∧ ((preL L P).getD (atF L P L.length) sd0).2.getD j 0 ≤ 512 := by
    unfold preL
    rcases atF_is L P L.length (Nat.le_refl _) with h | ⟨h1, h2⟩
    · rw [if_pos h, h, st_append, if_neg (by omega), if_pos rfl]
      simp
    · rw [if_neg (by omega)]; exact hL _ h1
  refine ⟨?_, fun j => ?_⟩
  · rw [adds_len]
    split <;> omega
  · rw [adds_get]
    have := h0.2 j
    have := hC.2 (j - r)
    split <;> omega
end Go.Proofs.Ytmlkabddhdkpaaa

/- Putting counts of a pairing into a list: the reference's. -/
namespace Go.Proofs.Ytmlkabddhdkpaaa
set_option maxRecDepth 100000
set_option linter.unusedSimpArgs false
set_option linter.unusedVariables false
open Go Go.RowKit
theorem pre_not {L : List Ste} {P : List Int} (h : atF L P L.length ≠ L.length) : preL L P = L := by unfold preL; rw [if_neg h]
theorem pre_new {L : List Ste} {P : List Int} (h : atF L P L.length = L.length) : preL L P = L ++ [(P, [])] := by unfold preL; rw [if_pos h]

theorem sl7EqualC (x y : List Int) (a a2 : Option Addr) (cap cap2 : Nat) (w : World) (hx : Sl rInt w a x) (hy : Sl rInt w a2 y) (hl : x.length = y.length) : Fn Try.prog 30 [.slice a x.length cap, .slice a2 y.length cap2] w (fun v w1 => v = .bool (decide (x = y)) ∧ Dr w w1) := by
  refine Fn.enter (n := 26) Try.func30 rfl rfl rfl ?_
  show WC _ _ _ _ [(0, .slice a x.length cap), (1, .slice a2 y.length cap2)] _
  have hD := Dr.refl w
  have hxm := hx.1
  refine WC.seq ?_
  refine WC.region ?_
  refine WL.u rfl rfl (Wt.plain rfl) (Ex.assign rfl) ?_
  refine WL.next ?_
  refine WC.seq ?_
  refine WC.seq ?_
  refine WC.region ?_
  refine WL.u rfl rfl (Wt.plain rfl) (Ex.assign rfl) ?_
  refine WL.next ?_
  refine WC.block ?_
  refine WC.loop (ι := Nat) (fun i => [(0, .slice a x.length cap), (1, .slice a2 y.length cap2), (5, vint i)]) (fun i wn => Dr w wn ∧ (∀ j, j < i → x.getD j 0 = y.getD j 0) ∧ i ≤ x.length) (fun i => x.length - i) (0) (by exact ⟨rfl, rfl, rfl, trivial⟩) ?_ ?_
  · exact ⟨hD, fun j hj => by omega, Nat.zero_le _⟩
  rintro i wn ⟨hD, hI, hi⟩
  intro mu0 hmu; try dsimp only at hmu
  show WC _ _ _ _ [(0, .slice a x.length cap), (1, .slice a2 y.length cap2), (5, vint i)] _
  refine WC.seq ?_
  refine WC.seq ?_
  refine WC.region ?_
  refine WL.u rfl rfl (Wt.plain rfl) (Ex.move rfl) ?_
  refine WL.u rfl rfl (Wt.plain rfl) (Ex.move rfl) ?_
  refine WL.u rfl rfl (Wt.plain rfl) (Ex.lenSl Try.underlying22 rfl) ?_
  refine WL.u rfl rfl (Wt.plain rfl) (Ex.lss rfl rfl) ?_
  refine WL.next ?_
  refine WC.cond rfl (fun hc1 => ?_) (fun hc1 => ?_)
  · have hc1' := hc1; try simp only [decide_eq_true_eq, decide_eq_false_iff_not, Bool.not_eq_true', Bool.not_eq_false', Bool.not_eq_true, Bool.not_eq_false] at hc1'
    have hlt : i < x.length := by omega
    obtain ⟨b, off, rfl⟩ := hx.addr (by omega)
    obtain ⟨b2, off2, rfl⟩ := hy.addr (by omega)
    refine WC.skip ?_
    refine WN.next ?_
    refine WC.seq ?_
    refine WC.block ?_
    refine WC.seq ?_
    refine WC.quiet rfl (by kernel_rfl) ?_
    refine WQ.u rfl rfl (Wt.plain rfl) (fun w hC => Ex.move rfl) ?_
    refine WQ.u rfl rfl (Wt.plain rfl) (fun w hC => Ex.move rfl) ?_
    refine WQ.u rfl rfl (Wt.plain rfl) (fun w hC => Ex.indexAddr Try.underlying22 ty3 rfl rfl (by omega)) ?_
    refine WQ.u rfl rfl (Wt.plain rfl) (fun w hC => Ex.loadSl flat3 (hx.dr (hD.trans hC)) rfl rfl (getD_get x i 0 hlt)) ?_
    refine WQ.u rfl rfl (Wt.plain rfl) (fun w hC => Ex.move rfl) ?_
    refine WQ.u rfl rfl (Wt.plain rfl) (fun w hC => Ex.move rfl) ?_
    refine WQ.u rfl rfl (Wt.plain rfl) (fun w hC => Ex.indexAddr Try.underlying22 ty3 rfl rfl (by omega)) ?_
    refine WQ.u rfl rfl (Wt.plain rfl) (fun w hC => Ex.loadSl flat3 (hy.dr (hD.trans hC)) rfl rfl (getD_get y i 0 (by omega))) ?_
    refine WQ.u rfl rfl (Wt.plain rfl) (fun w hC => Ex.neq rfl rfl) ?_
    refine WQ.nil ?_
    intro wn hC; replace hD := hD.trans hC; clear hC
    refine WN.next ?_
    refine WC.cond rfl (fun hc2 => ?_) (fun hc2 => ?_)
    · have hc2' := hc2; try simp only [decide_eq_true_eq, decide_eq_false_iff_not, Bool.not_eq_true', Bool.not_eq_false', Bool.not_eq_true, Bool.not_eq_false] at hc2'
      refine WC.seq ?_
      refine WC.region ?_
      refine WL.u rfl rfl (Wt.plain rfl) (Ex.assign rfl) ?_
      refine WL.next ?_
      refine WC.ret ?_
      refine WN.retBlock ?_
      refine WN.retThen ?_
      refine WN.retThen ?_
      refine WN.retBlock ?_
      refine WN.retThen ?_
      refine WN.body1 rfl rfl ?_
      exact ⟨by rw [decide_eq_false (fun e => hc2' (by rw [e]))], hD⟩
    have hc2' := hc2; try simp only [decide_eq_true_eq, decide_eq_false_iff_not, Bool.not_eq_true', Bool.not_eq_false', Bool.not_eq_true, Bool.not_eq_false] at hc2'
    refine WC.skip ?_
    refine WN.normalBlock ?_
    refine WN.next ?_
    refine WC.region ?_
    refine WL.u rfl rfl (Wt.plain rfl) (Ex.move rfl) ?_
    refine WL.u rfl rfl (Wt.plain rfl) (Ex.add rfl rfl (by omega)) ?_
    refine WL.u rfl rfl (Wt.plain rfl) (Ex.assign rfl) ?_
    refine WL.last ?_
    refine WN.round (i + 1) (by exact ⟨rfl, rfl, rfl, trivial⟩) ?_ ?_
    · exact ⟨hD, fun j hj => by rcases Nat.lt_succ_iff_lt_or_eq.1 hj with h | h; exact hI j h; rw [h]; omega, by omega⟩
    · (try dsimp only); omega
  have hc1' := hc1; try simp only [decide_eq_true_eq, decide_eq_false_iff_not, Bool.not_eq_true', Bool.not_eq_false', Bool.not_eq_true, Bool.not_eq_false] at hc1'
  refine WC.exit ?_
  refine WN.exitThen ?_
  refine WN.exitThen ?_
  refine WN.exitHere ?_
  refine WN.next ?_
  refine WC.seq ?_
  refine WC.region ?_
  refine WL.u rfl rfl (Wt.plain rfl) (Ex.move rfl) ?_
  refine WL.u rfl rfl (Wt.plain rfl) (Ex.lenSl Try.underlying22 rfl) ?_
  refine WL.u rfl rfl (Wt.plain rfl) (Ex.move rfl) ?_
  refine WL.u rfl rfl (Wt.plain rfl) (Ex.lenSl Try.underlying22 rfl) ?_
  refine WL.u rfl rfl (Wt.plain rfl) (Ex.eql rfl rfl) ?_
  refine WL.u rfl rfl (Wt.plain rfl) (Ex.assign rfl) ?_
  refine WL.next ?_
  refine WC.ret ?_
  refine WN.body1 rfl rfl ?_
  have e : x = y := ext_int hl (fun j hj => hI j (by omega))
  exact ⟨by rw [decide_eq_true e, decide_eq_true (show (x.length : Int) = (y.length : Int) by omega)], hD⟩

set_option maxHeartbeats 4000000 in
theorem sl10Put (S0 : List Nat) (w0 : World) (b0 cap0 bp capp bc capc : Nat) (cur0 : Array Value) (T : List (Nat × Obj)) (hs : List (Hd × Hd)) (L : List Ste) (P C : List Int) (r : Nat) (w : World) (hH : Hp S0 w0 w ((b0, .cells cur0 41 (0, 0)) :: T)) (ho0 : Own rSt cur0 cap0 hs) (hS : Sts T hs L) (hP : InT T (some ⟨bp, 0, none⟩, P.length, capp) P) (hC : InT T (some ⟨bc, 0, none⟩, C.length, capc) C) (hKP : ∀ i, i < L.length → (L.getD i sd0).1.length = P.length) (hL5 : L.length ≤ 512) (hLb : ∀ i, i < L.length → (L.getD i sd0).2.length ≤ 600 ∧ ∀ j, 0 ≤ (L.getD i sd0).2.getD j 0 ∧ (L.getD i sd0).2.getD j 0 ≤ 512) (hCb : C.length ≤ 600 ∧ ∀ j, 0 ≤ C.getD j 0 ∧ C.getD j 0 ≤ 512) (hr : r ≤ 100) : Fn Try.prog 16 [vsl b0 hs.length cap0, vsl bp P.length capp, vsl bc C.length capc, vint r] w (fun v w1 => ∃ b cap cur X hs2, v = vsl b hs2.length cap ∧ Hp S0 w0 w1 ((b, .cells cur 41 (0, 0)) :: (X ++ T)) ∧ Own rSt cur cap hs2 ∧ Sts (X ++ T) hs2 (putL L P C r C.length)) := by
  refine Fn.enter (n := 62) Try.func16 rfl rfl rfl ?_
  show WC _ _ _ _ [(0, vsl b0 hs.length cap0), (1, vsl bp P.length capp), (2, vsl bc C.length capc), (3, vint r)] _
  have hat := pre_at L P
  have hsl := hS.len
  obtain ⟨bp2, capp2, curp, hpe, hpm, hpo⟩ := id hP
  obtain ⟨rfl, rfl⟩ : bp = bp2 ∧ capp = capp2 := by simpa using hpe
  obtain ⟨bc2, capc2, curc, hce, hcm, hco⟩ := id hC
  obtain ⟨rfl, rfl⟩ : bc = bc2 ∧ capc = capc2 := by simpa using hce
  refine WC.seq ?_
  refine WC.region ?_
  refine WL.u rfl rfl (Wt.plain rfl) (Ex.assign rfl) ?_
  refine WL.next ?_
  refine WC.seq ?_
  refine WC.region ?_
  refine WL.u rfl rfl (Wt.plain rfl) (Ex.move rfl) ?_
  refine WL.u rfl rfl (Wt.plain rfl) (Ex.lenSl Try.underlying33 rfl) ?_
  refine WL.u rfl rfl (Wt.plain rfl) (Ex.assign rfl) ?_
  refine WL.next ?_
  refine WC.seq ?_
  refine WC.seq ?_
  refine WC.region ?_
  refine WL.u rfl rfl (Wt.plain rfl) (Ex.assign rfl) ?_
  refine WL.next ?_
  refine WC.block ?_
  refine WC.loop (ι := Nat) (fun i => [(0, vsl b0 hs.length cap0), (1, vsl bp P.length capp), (2, vsl bc C.length capc), (3, vint r), (9, vint (atF L P i)), (10, vint i)]) (fun i wn => Hp S0 w0 wn ((b0, .cells cur0 41 (0, 0)) :: T) ∧ i ≤ hs.length) (fun i => hs.length - i) (0) (by exact ⟨rfl, rfl, rfl, rfl, congrArg (fun q : Nat => some (vint q)) hsl, rfl, trivial⟩) ?_ ?_
  · exact ⟨hH, Nat.zero_le _⟩
  rintro i wn ⟨hH, hi⟩
  intro mu0 hmu; try dsimp only at hmu
  show WC _ _ _ _ [(0, vsl b0 hs.length cap0), (1, vsl bp P.length capp), (2, vsl bc C.length capc), (3, vint r), (9, vint (atF L P i)), (10, vint i)] _
  refine WC.seq ?_
  refine WC.seq ?_
  refine WC.region ?_
  refine WL.u rfl rfl (Wt.plain rfl) (Ex.move rfl) ?_
  refine WL.u rfl rfl (Wt.plain rfl) (Ex.move rfl) ?_
  refine WL.u rfl rfl (Wt.plain rfl) (Ex.lenSl Try.underlying33 rfl) ?_
  refine WL.u rfl rfl (Wt.plain rfl) (Ex.lss rfl rfl) ?_
  refine WL.next ?_
  refine WC.cond rfl (fun hc1 => ?_) (fun hc1 => ?_)
  · have hc1' := hc1; try simp only [decide_eq_true_eq, decide_eq_false_iff_not, Bool.not_eq_true', Bool.not_eq_false', Bool.not_eq_true, Bool.not_eq_false] at hc1'
    have hlt : i < L.length := by omega
    obtain ⟨⟨bq, capq, curq, hq, hqm, hqo⟩, _⟩ := hS.get i hlt
    have hgi := getD_get hs i hd2 (by omega)
    refine WC.skip ?_
    refine WN.next ?_
    refine WC.seq ?_
    refine WC.block ?_
    refine WC.seq ?_
    refine WC.region ?_
    refine WL.u rfl rfl (Wt.plain rfl) (Ex.move rfl) ?_
    refine WL.u rfl rfl (Wt.plain rfl) (Ex.move rfl) ?_
    refine WL.u rfl rfl (Wt.plain rfl) (Ex.indexAddr Try.underlying33 ty41 rfl rfl (by omega)) ?_
    refine WL.u rfl rfl (Wt.plain rfl) (Ex.fieldAddr fd41_0 rfl) ?_
    refine WL.u rfl rfl (Wt.plain rfl) ((Ex.loadHp flat22 rfl hH (ho0.getC (k := 0) hgi rfl)).to (congrArg hdV hq)) ?_
    refine WL.u rfl rfl (Wt.plain rfl) (Ex.move rfl) ?_
    refine WL.call callable30 rfl (Wt.plain rfl) rfl rfl (sl7EqualC (L.getD i sd0).1 P _ _ _ _ _ (hH.sl (List.mem_cons_of_mem _ hqm) hqo) (hH.sl (List.mem_cons_of_mem _ hpm) hpo) (hKP i hlt)) ?_
    rintro _ wn ⟨rfl, hC⟩; replace hH := hH.dr hC; clear hC
    refine WL.next ?_
    refine WC.cond rfl (fun hc2 => ?_) (fun hc2 => ?_)
    · have hc2' := hc2; try simp only [decide_eq_true_eq, decide_eq_false_iff_not, Bool.not_eq_true', Bool.not_eq_false', Bool.not_eq_true, Bool.not_eq_false] at hc2'
      have hae : i = atF L P (i + 1) := by rw [atF, if_pos hc2']
      refine WC.region ?_
      refine WL.u rfl rfl (Wt.plain rfl) (Ex.move rfl) ?_
      refine WL.u rfl rfl (Wt.plain rfl) (Ex.assign rfl) ?_
      refine WL.last ?_
      refine WN.normalBlock ?_
      refine WN.next ?_
      refine WC.region ?_
      refine WL.u rfl rfl (Wt.plain rfl) (Ex.move rfl) ?_
      refine WL.u rfl rfl (Wt.plain rfl) (Ex.add rfl rfl (by omega)) ?_
      refine WL.u rfl rfl (Wt.plain rfl) (Ex.assign rfl) ?_
      refine WL.last ?_
      refine WN.round (i + 1) (by exact ⟨rfl, rfl, rfl, rfl, congrArg (fun q : Nat => some (vint q)) hae, rfl, trivial⟩) ?_ ?_
      · exact ⟨hH, by omega⟩
      · (try dsimp only); omega
    have hc2' := hc2; try simp only [decide_eq_true_eq, decide_eq_false_iff_not, Bool.not_eq_true', Bool.not_eq_false', Bool.not_eq_true, Bool.not_eq_false] at hc2'
    have hae : atF L P i = atF L P (i + 1) := by rw [atF, if_neg hc2']
    refine WC.skip ?_
    refine WN.normalBlock ?_
    refine WN.next ?_
    refine WC.region ?_
    refine WL.u rfl rfl (Wt.plain rfl) (Ex.move rfl) ?_
    refine WL.u rfl rfl (Wt.plain rfl) (Ex.add rfl rfl (by omega)) ?_
    refine WL.u rfl rfl (Wt.plain rfl) (Ex.assign rfl) ?_
    refine WL.last ?_
    refine WN.round (i + 1) (by exact ⟨rfl, rfl, rfl, rfl, congrArg (fun q : Nat => some (vint q)) hae, rfl, trivial⟩) ?_ ?_
    · exact ⟨hH, by omega⟩
    · (try dsimp only); omega
  have hc1' := hc1; try simp only [decide_eq_true_eq, decide_eq_false_iff_not, Bool.not_eq_true', Bool.not_eq_false', Bool.not_eq_true, Bool.not_eq_false] at hc1'
  have hie : i = L.length := by omega
  rw [hie]
  refine WC.exit ?_
  refine WN.exitThen ?_
  refine WN.exitThen ?_
  refine WN.exitHere ?_
  refine WN.next ?_
  refine WC.seq ?_
  refine WC.seq ?_
  refine WC.region ?_
  refine WL.u rfl rfl (Wt.plain rfl) (Ex.move rfl) ?_
  refine WL.u rfl rfl (Wt.plain rfl) (Ex.move rfl) ?_
  refine WL.u rfl rfl (Wt.plain rfl) (Ex.lenSl Try.underlying33 rfl) ?_
  refine WL.u rfl rfl (Wt.plain rfl) (Ex.eql rfl rfl) ?_
  refine WL.next ?_
  refine WC.cond rfl (fun hc3 => ?_) (fun hc3 => ?_)
  · have hc3' := hc3; try simp only [decide_eq_true_eq, decide_eq_false_iff_not, Bool.not_eq_true', Bool.not_eq_false', Bool.not_eq_true, Bool.not_eq_false] at hc3'
    have hpn := pre_new (show atF L P L.length = L.length by omega)
    refine WC.region ?_
    refine WL.u rfl rfl (Wt.plain rfl) (Ex.move rfl) ?_
    refine WL.u rfl rfl (Wt.plain rfl) (Ex.move rfl) ?_
    refine WL.lit0 Try.underlying22 ty3 rfl (Wt.plain rfl) hH (fun b34 wn hb34 hk34 hH => ?_)
    have ho34 := Own.nil rInt
    refine WL.u rfl rfl (Wt.plain rfl) (Ex.buildS bd41 rfl rfl rfl rfl rfl) ?_
    replace hH := hH.f1
    refine WL.append1 (r := rSt) (u := ((((some ⟨bp, 0, none⟩, P.length, capp) : Hd), ((some ⟨b34, 0, none⟩, 0, 0) : Hd)) : Hd × Hd)) Try.underlying33 ty41 rfl rfl (fun _ => rfl) (fun _ => rfl) rfl rfl (Wt.plain rfl) (fun _ => (Wt.plain rfl)) hH ho0 rfl (by omega) (by omega) (fun b0 cap0 cur0 wn x0 hb0 hk0 hH ho0 => ?_)
    have hS1 : Sts ([(b34, .cells #[] 3 (0, 0))] ++ T) (hs ++ [(((some ⟨bp, 0, none⟩, P.length, capp) : Hd), ((some ⟨b34, 0, none⟩, 0, 0) : Hd))]) (putL L P C r 0) := by
      rw [put_zero, hpn]
      exact (hS.mono fun x hx => List.mem_append.2 (.inr hx)).snoc (hP.mono fun x hx => List.mem_append.2 (.inr hx)) ⟨b34, 0, #[], rfl, by simp, ho34⟩
    refine WL.u rfl rfl (Wt.plain rfl) (Ex.assign rfl) ?_
    refine WL.next ?_
    refine WC.seq ?_
    refine WC.seq ?_
    refine WC.region ?_
    refine WL.u rfl rfl (Wt.plain rfl) (Ex.assign rfl) ?_
    refine WL.next ?_
    refine WC.block ?_
    refine WC.loop (ι := Nat × (List (Nat × Obj)) × (List (Hd × Hd)) × (Array Value)) (fun (i, X, h2, cur0) => [(0, vsl b0 h2.length cap0), (2, vsl bc C.length capc), (3, vint r), (9, vint (atF L P L.length)), (11, vint i)]) (fun (i, X, h2, cur0) wn => Hp S0 w0 wn ((b0, .cells cur0 41 (0, 0)) :: (X ++ T)) ∧ Own rSt cur0 cap0 h2 ∧ Sts (X ++ T) h2 (putL L P C r i) ∧ i ≤ C.length) (fun (i, X, h2, cur0) => C.length - i) ((0, [(b34, .cells #[] 3 (0, 0))], hs ++ [(((some ⟨bp, 0, none⟩, P.length, capp) : Hd), ((some ⟨b34, 0, none⟩, 0, 0) : Hd))], cur0)) (by exact ⟨rfl, rfl, rfl, rfl, rfl, trivial⟩) ?_ ?_
    · exact ⟨hH, ho0, hS1, Nat.zero_le _⟩
    rintro ⟨i, X, h2, cur0⟩ wn ⟨hH, ho0, hS2, hi⟩
    have hat2 : (atF L P L.length) < (putL L P C r i).length := by rw [put_len]; exact hat.1
    have hat3 : (atF L P L.length) < h2.length := by rw [hS2.len]; exact hat2
    intro mu0 hmu; try dsimp only at hmu
    show WC _ _ _ _ [(0, vsl b0 h2.length cap0), (2, vsl bc C.length capc), (3, vint r), (9, vint (atF L P L.length)), (11, vint i)] _
    refine WC.seq ?_
    refine WC.seq ?_
    refine WC.region ?_
    refine WL.u rfl rfl (Wt.plain rfl) (Ex.move rfl) ?_
    refine WL.u rfl rfl (Wt.plain rfl) (Ex.move rfl) ?_
    refine WL.u rfl rfl (Wt.plain rfl) (Ex.lenSl Try.underlying22 rfl) ?_
    refine WL.u rfl rfl (Wt.plain rfl) (Ex.lss rfl rfl) ?_
    refine WL.next ?_
    refine WC.cond rfl (fun hc4 => ?_) (fun hc4 => ?_)
    · have hc4' := hc4; try simp only [decide_eq_true_eq, decide_eq_false_iff_not, Bool.not_eq_true', Bool.not_eq_false', Bool.not_eq_true, Bool.not_eq_false] at hc4'
      have hlt : i < C.length := by omega
      obtain ⟨_, bq, capq, curq, hq, hqm, hqo⟩ := hS2.get _ hat2
      rw [put_get, if_pos rfl] at hq hqo
      dsimp only at hq hqo
      have hga := getD_get h2 (atF L P L.length) hd2 hat3
      obtain ⟨hb1, hb2⟩ := adds_bd (L := L) (P := P) (C := C) (r := r) (i := i) hLb hCb hr hi
      have hb3 := hCb.2 i
      have hcm2 : ∀ q, q ∈ T → q ∈ (b0, Obj.cells cur0 41 (0, 0)) :: (X ++ T) := fun q hq => List.mem_cons_of_mem _ (List.mem_append.2 (.inr hq))
      refine WC.skip ?_
      refine WN.next ?_
      refine WC.seq ?_
      refine WC.block ?_
      have hQ := hH
      refine WC.ptree (Keep [b0] _) (.q 0 (.q 1 (.q 2 (.q 3 (.q 4 (.q 5 (.q 7 (.q 8 (.q 9 (.q 10 (.q 11 (.q 12 (.alt 6 13 (.f 13 (.f 14 (.q 15 (.q 16 (.f 17 .nil))))) (.f 6 (.f 14 (.q 15 (.q 16 (.f 17 .nil)))))))))))))))))) rfl (by kernel_rfl) (Keep.drew _ _) (fun hR => ?_)
      replace hH := hH.drew
      refine WPt.q rfl rfl rfl (Wt.plain rfl) (fun w hC => Ex.move rfl) ?_
      refine WPt.q rfl rfl rfl (Wt.plain rfl) (fun w hC => Ex.move rfl) ?_
      refine WPt.q rfl rfl rfl (Wt.plain rfl) (fun w hC => Ex.move rfl) ?_
      refine WPt.q rfl rfl rfl (Wt.plain rfl) (fun w hC => Ex.move rfl) ?_
      refine WPt.q rfl rfl rfl (Wt.plain rfl) (fun w hC => Ex.indexAddr Try.underlying33 ty41 rfl rfl (by omega)) ?_
      refine WPt.q rfl rfl rfl (Wt.plain rfl) (fun w hC => Ex.fieldAddr fd41_1 rfl) ?_
      refine WPt.q rfl rfl rfl (Wt.plain rfl) (fun w hC => Ex.move rfl) ?_
      refine WPt.q rfl rfl rfl (Wt.plain rfl) (fun w hC => Ex.move rfl) ?_
      refine WPt.q rfl rfl rfl (Wt.plain rfl) (fun w hC => (Ex.add rfl rfl (by omega)).to (congrArg (Value.int IntKind.i64) (show _ = ((i + r : Nat) : Int) by omega))) ?_
      refine WPt.q rfl rfl rfl (Wt.plain rfl) (fun w hC => Ex.move rfl) ?_
      refine WPt.q rfl rfl rfl (Wt.plain rfl) (fun w hC => Ex.move rfl) ?_
      refine WPt.q rfl rfl rfl (Wt.plain rfl) (fun w hC => Ex.indexAddr Try.underlying22 ty3 rfl rfl (by omega)) ?_
      refine WPt.alt rfl rfl ?_ ?_
      · refine WL.u rfl rfl (Wt.plain rfl) ((Ex.loadHp flat22 rfl hH (ho0.getC (k := 1) hga rfl)).to (congrArg hdV hq)) ?_
        refine WPt.b hR ?_
        refine WPt.f rfl ?_
        refine WL.u rfl rfl (Wt.plain rfl) (Ex.loadSl flat3 (hH.sl (hcm2 _ hcm) hco) rfl rfl (getD_get C i 0 hlt)) ?_
        refine WPt.b hR ?_
        refine WPt.f rfl ?_
        refine WL.call callable18 rfl (Wt.plain rfl) rfl rfl (sl10Add (addsL ((preL L P).getD (atF L P L.length) sd0).2 C r i) bq 0 capq (i + r) (C.getD i 0) _ (hH.sl (List.mem_cons_of_mem _ hqm) hqo) hb1 (by omega) (by omega) hb2) ?_
        rintro _ wn ⟨hC2, hN⟩; obtain ⟨b58, cap58, cur58, rfl, hge58, hbb58, ho58⟩ := hN.own; replace hR := hR.trans hC2.nil; replace hH := hH.push hC2 hge58 hbb58; clear hC2 hN
        refine WPt.b hR ?_
        refine WPt.q rfl rfl rfl (Wt.plain rfl) (fun w hC => Ex.indexAddr Try.underlying33 ty41 rfl rfl (by omega)) ?_
        refine WPt.q rfl rfl rfl (Wt.plain rfl) (fun w hC => Ex.fieldAddr fd41_1 rfl) ?_
        refine WPt.f rfl ?_
        replace hH := hH.f1
        refine WL.store1 ty22 rfl rfl rfl (Wt.plain rfl) hH (ho0.idx2 hat3) (by simp) (fun wn hk hH => ?_)
        replace hR := hR.trans (hk.mono (by simp))
        replace ho0 := ho0.set2 hat3 ((some ⟨b58, 0, none⟩, (addL (addsL ((preL L P).getD (atF L P L.length) sd0).2 C r i) (i + r) (C.getD i 0)).length, cap58) : Hd)
        have hS3 : Sts ((b58, .cells cur58 3 (0, 0)) :: X ++ T) (h2.set (atF L P L.length) ((h2.getD (atF L P L.length) hd2).1, ((some ⟨b58, 0, none⟩, (addL (addsL ((preL L P).getD (atF L P L.length) sd0).2 C r i) (i + r) (C.getD i 0)).length, cap58) : Hd))) (putL L P C r (i + 1)) := by
          rw [put_succ]
          exact (hS2.mono fun q hq => List.mem_cons_of_mem _ hq).set hat2 ⟨b58, cap58, cur58, rfl, List.mem_cons_self .., ho58⟩
        refine WPt.b hR ?_
        refine WPt.nil (fun hC => ?_); clear hC
        refine WN.normalBlock ?_
        refine WN.next ?_
        refine WC.region ?_
        refine WL.u rfl rfl (Wt.plain rfl) (Ex.move rfl) ?_
        refine WL.u rfl rfl (Wt.plain rfl) (Ex.add rfl rfl (by omega)) ?_
        refine WL.u rfl rfl (Wt.plain rfl) (Ex.assign rfl) ?_
        refine WL.last ?_
        refine WN.round (i + 1, (b58, .cells cur58 3 (0, 0)) :: X, h2.set (atF L P L.length) ((h2.getD (atF L P L.length) hd2).1, ((some ⟨b58, 0, none⟩, (addL (addsL ((preL L P).getD (atF L P L.length) sd0).2 C r i) (i + r) (C.getD i 0)).length, cap58) : Hd)), cur0.setIfInBounds (0 + ((atF L P L.length) : Int).toNat * 2 + 1) (hdV ((some ⟨b58, 0, none⟩, (addL (addsL ((preL L P).getD (atF L P L.length) sd0).2 C r i) (i + r) (C.getD i 0)).length, cap58) : Hd))) (by exact ⟨congrArg (fun q : Nat => some (vsl b0 q cap0)) List.length_set.symm, rfl, rfl, rfl, rfl, trivial⟩) ?_ ?_
        · exact ⟨hH, ho0, hS3, by omega⟩
        · (try dsimp only); omega
      refine WL.u rfl rfl (Wt.plain rfl) (Ex.loadSl flat3 (hH.sl (hcm2 _ hcm) hco) rfl rfl (getD_get C i 0 hlt)) ?_
      refine WPt.b hR ?_
      refine WPt.f rfl ?_
      refine WL.u rfl rfl (Wt.plain rfl) ((Ex.loadHp flat22 rfl hH (ho0.getC (k := 1) hga rfl)).to (congrArg hdV hq)) ?_
      refine WPt.b hR ?_
      refine WPt.f rfl ?_
      refine WL.call callable18 rfl (Wt.plain rfl) rfl rfl (sl10Add (addsL ((preL L P).getD (atF L P L.length) sd0).2 C r i) bq 0 capq (i + r) (C.getD i 0) _ (hH.sl (List.mem_cons_of_mem _ hqm) hqo) hb1 (by omega) (by omega) hb2) ?_
      rintro _ wn ⟨hC2, hN⟩; obtain ⟨b58, cap58, cur58, rfl, hge58, hbb58, ho58⟩ := hN.own; replace hR := hR.trans hC2.nil; replace hH := hH.push hC2 hge58 hbb58; clear hC2 hN
      refine WPt.b hR ?_
      refine WPt.q rfl rfl rfl (Wt.plain rfl) (fun w hC => Ex.indexAddr Try.underlying33 ty41 rfl rfl (by omega)) ?_
      refine WPt.q rfl rfl rfl (Wt.plain rfl) (fun w hC => Ex.fieldAddr fd41_1 rfl) ?_
      refine WPt.f rfl ?_
      replace hH := hH.f1
      refine WL.store1 ty22 rfl rfl rfl (Wt.plain rfl) hH (ho0.idx2 hat3) (by simp) (fun wn hk hH => ?_)
      replace hR := hR.trans (hk.mono (by simp))
      replace ho0 := ho0.set2 hat3 ((some ⟨b58, 0, none⟩, (addL (addsL ((preL L P).getD (atF L P L.length) sd0).2 C r i) (i + r) (C.getD i 0)).length, cap58) : Hd)
      have hS3 : Sts ((b58, .cells cur58 3 (0, 0)) :: X ++ T) (h2.set (atF L P L.length) ((h2.getD (atF L P L.length) hd2).1, ((some ⟨b58, 0, none⟩, (addL (addsL ((preL L P).getD (atF L P L.length) sd0).2 C r i) (i + r) (C.getD i 0)).length, cap58) : Hd))) (putL L P C r (i + 1)) := by
        rw [put_succ]
        exact (hS2.mono fun q hq => List.mem_cons_of_mem _ hq).set hat2 ⟨b58, cap58, cur58, rfl, List.mem_cons_self .., ho58⟩
      refine WPt.b hR ?_
      refine WPt.nil (fun hC => ?_); clear hC
      refine WN.normalBlock ?_
      refine WN.next ?_
      refine WC.region ?_
      refine WL.u rfl rfl (Wt.plain rfl) (Ex.move rfl) ?_
      refine WL.u rfl rfl (Wt.plain rfl) (Ex.add rfl rfl (by omega)) ?_
      refine WL.u rfl rfl (Wt.plain rfl) (Ex.assign rfl) ?_
      refine WL.last ?_
      refine WN.round (i + 1, (b58, .cells cur58 3 (0, 0)) :: X, h2.set (atF L P L.length) ((h2.getD (atF L P L.length) hd2).1, ((some ⟨b58, 0, none⟩, (addL (addsL ((preL L P).getD (atF L P L.length) sd0).2 C r i) (i + r) (C.getD i 0)).length, cap58) : Hd)), cur0.setIfInBounds (0 + ((atF L P L.length) : Int).toNat * 2 + 1) (hdV ((some ⟨b58, 0, none⟩, (addL (addsL ((preL L P).getD (atF L P L.length) sd0).2 C r i) (i + r) (C.getD i 0)).length, cap58) : Hd))) (by exact ⟨congrArg (fun q : Nat => some (vsl b0 q cap0)) List.length_set.symm, rfl, rfl, rfl, rfl, trivial⟩) ?_ ?_
      · exact ⟨hH, ho0, hS3, by omega⟩
      · (try dsimp only); omega
    have hc4' := hc4; try simp only [decide_eq_true_eq, decide_eq_false_iff_not, Bool.not_eq_true', Bool.not_eq_false', Bool.not_eq_true, Bool.not_eq_false] at hc4'
    have hie2 : i = C.length := by omega
    rw [hie2] at hS2
    refine WC.exit ?_
    refine WN.exitThen ?_
    refine WN.exitThen ?_
    refine WN.exitHere ?_
    refine WN.next ?_
    refine WC.seq ?_
    refine WC.region ?_
    refine WL.u rfl rfl (Wt.plain rfl) (Ex.move rfl) ?_
    refine WL.u rfl rfl (Wt.plain rfl) (Ex.assign rfl) ?_
    refine WL.next ?_
    refine WC.ret ?_
    refine WN.body1 rfl rfl ?_
    exact ⟨_, _, _, X, h2, rfl, hH, ho0, hS2⟩
  have hc3' := hc3; try simp only [decide_eq_true_eq, decide_eq_false_iff_not, Bool.not_eq_true', Bool.not_eq_false', Bool.not_eq_true, Bool.not_eq_false] at hc3'
  have hpn := pre_not (show atF L P L.length ≠ L.length by omega)
  have hS1 : Sts ([] ++ T) hs (putL L P C r 0) := by rw [put_zero, hpn]; exact hS
  refine WC.skip ?_
  refine WN.next ?_
  refine WC.seq ?_
  refine WC.seq ?_
  refine WC.region ?_
  refine WL.u rfl rfl (Wt.plain rfl) (Ex.assign rfl) ?_
  refine WL.next ?_
  refine WC.block ?_
  refine WC.loop (ι := Nat × (List (Nat × Obj)) × (List (Hd × Hd)) × (Array Value)) (fun (i, X, h2, cur0) => [(0, vsl b0 h2.length cap0), (2, vsl bc C.length capc), (3, vint r), (9, vint (atF L P L.length)), (11, vint i)]) (fun (i, X, h2, cur0) wn => Hp S0 w0 wn ((b0, .cells cur0 41 (0, 0)) :: (X ++ T)) ∧ Own rSt cur0 cap0 h2 ∧ Sts (X ++ T) h2 (putL L P C r i) ∧ i ≤ C.length) (fun (i, X, h2, cur0) => C.length - i) ((0, [], hs, cur0)) (by exact ⟨rfl, rfl, rfl, rfl, rfl, trivial⟩) ?_ ?_
  · exact ⟨hH, ho0, hS1, Nat.zero_le _⟩
  rintro ⟨i, X, h2, cur0⟩ wn ⟨hH, ho0, hS2, hi⟩
  have hat2 : (atF L P L.length) < (putL L P C r i).length := by rw [put_len]; exact hat.1
  have hat3 : (atF L P L.length) < h2.length := by rw [hS2.len]; exact hat2
  intro mu0 hmu; try dsimp only at hmu
  show WC _ _ _ _ [(0, vsl b0 h2.length cap0), (2, vsl bc C.length capc), (3, vint r), (9, vint (atF L P L.length)), (11, vint i)] _
  refine WC.seq ?_
  refine WC.seq ?_
  refine WC.region ?_
  refine WL.u rfl rfl (Wt.plain rfl) (Ex.move rfl) ?_
  refine WL.u rfl rfl (Wt.plain rfl) (Ex.move rfl) ?_
  refine WL.u rfl rfl (Wt.plain rfl) (Ex.lenSl Try.underlying22 rfl) ?_
  refine WL.u rfl rfl (Wt.plain rfl) (Ex.lss rfl rfl) ?_
  refine WL.next ?_
  refine WC.cond rfl (fun hc4 => ?_) (fun hc4 => ?_)
  · have hc4' := hc4; try simp only [decide_eq_true_eq, decide_eq_false_iff_not, Bool.not_eq_true', Bool.not_eq_false', Bool.not_eq_true, Bool.not_eq_false] at hc4'
    have hlt : i < C.length := by omega
    obtain ⟨_, bq, capq, curq, hq, hqm, hqo⟩ := hS2.get _ hat2
    rw [put_get, if_pos rfl] at hq hqo
    dsimp only at hq hqo
    have hga := getD_get h2 (atF L P L.length) hd2 hat3
    obtain ⟨hb1, hb2⟩ := adds_bd (L := L) (P := P) (C := C) (r := r) (i := i) hLb hCb hr hi
    have hb3 := hCb.2 i
    have hcm2 : ∀ q, q ∈ T → q ∈ (b0, Obj.cells cur0 41 (0, 0)) :: (X ++ T) := fun q hq => List.mem_cons_of_mem _ (List.mem_append.2 (.inr hq))
    refine WC.skip ?_
    refine WN.next ?_
    refine WC.seq ?_
    refine WC.block ?_
    have hQ := hH
    refine WC.ptree (Keep [b0] _) (.q 0 (.q 1 (.q 2 (.q 3 (.q 4 (.q 5 (.q 7 (.q 8 (.q 9 (.q 10 (.q 11 (.q 12 (.alt 6 13 (.f 13 (.f 14 (.q 15 (.q 16 (.f 17 .nil))))) (.f 6 (.f 14 (.q 15 (.q 16 (.f 17 .nil)))))))))))))))))) rfl (by kernel_rfl) (Keep.drew _ _) (fun hR => ?_)
    replace hH := hH.drew
    refine WPt.q rfl rfl rfl (Wt.plain rfl) (fun w hC => Ex.move rfl) ?_
    refine WPt.q rfl rfl rfl (Wt.plain rfl) (fun w hC => Ex.move rfl) ?_
    refine WPt.q rfl rfl rfl (Wt.plain rfl) (fun w hC => Ex.move rfl) ?_
    refine WPt.q rfl rfl rfl (Wt.plain rfl) (fun w hC => Ex.move rfl) ?_
    refine WPt.q rfl rfl rfl (Wt.plain rfl) (fun w hC => Ex.indexAddr Try.underlying33 ty41 rfl rfl (by omega)) ?_
    refine WPt.q rfl rfl rfl (Wt.plain rfl) (fun w hC => Ex.fieldAddr fd41_1 rfl) ?_
    refine WPt.q rfl rfl rfl (Wt.plain rfl) (fun w hC => Ex.move rfl) ?_
    refine WPt.q rfl rfl rfl (Wt.plain rfl) (fun w hC => Ex.move rfl) ?_
    refine WPt.q rfl rfl rfl (Wt.plain rfl) (fun w hC => (Ex.add rfl rfl (by omega)).to (congrArg (Value.int IntKind.i64) (show _ = ((i + r : Nat) : Int) by omega))) ?_
    refine WPt.q rfl rfl rfl (Wt.plain rfl) (fun w hC => Ex.move rfl) ?_
    refine WPt.q rfl rfl rfl (Wt.plain rfl) (fun w hC => Ex.move rfl) ?_
    refine WPt.q rfl rfl rfl (Wt.plain rfl) (fun w hC => Ex.indexAddr Try.underlying22 ty3 rfl rfl (by omega)) ?_
    refine WPt.alt rfl rfl ?_ ?_
    · refine WL.u rfl rfl (Wt.plain rfl) ((Ex.loadHp flat22 rfl hH (ho0.getC (k := 1) hga rfl)).to (congrArg hdV hq)) ?_
      refine WPt.b hR ?_
      refine WPt.f rfl ?_
      refine WL.u rfl rfl (Wt.plain rfl) (Ex.loadSl flat3 (hH.sl (hcm2 _ hcm) hco) rfl rfl (getD_get C i 0 hlt)) ?_
      refine WPt.b hR ?_
      refine WPt.f rfl ?_
      refine WL.call callable18 rfl (Wt.plain rfl) rfl rfl (sl10Add (addsL ((preL L P).getD (atF L P L.length) sd0).2 C r i) bq 0 capq (i + r) (C.getD i 0) _ (hH.sl (List.mem_cons_of_mem _ hqm) hqo) hb1 (by omega) (by omega) hb2) ?_
      rintro _ wn ⟨hC2, hN⟩; obtain ⟨b58, cap58, cur58, rfl, hge58, hbb58, ho58⟩ := hN.own; replace hR := hR.trans hC2.nil; replace hH := hH.push hC2 hge58 hbb58; clear hC2 hN
      refine WPt.b hR ?_
      refine WPt.q rfl rfl rfl (Wt.plain rfl) (fun w hC => Ex.indexAddr Try.underlying33 ty41 rfl rfl (by omega)) ?_
      refine WPt.q rfl rfl rfl (Wt.plain rfl) (fun w hC => Ex.fieldAddr fd41_1 rfl) ?_
      refine WPt.f rfl ?_
      replace hH := hH.f1
      refine WL.store1 ty22 rfl rfl rfl (Wt.plain rfl) hH (ho0.idx2 hat3) (by simp) (fun wn hk hH => ?_)
      replace hR := hR.trans (hk.mono (by simp))
      replace ho0 := ho0.set2 hat3 ((some ⟨b58, 0, none⟩, (addL (addsL ((preL L P).getD (atF L P L.length) sd0).2 C r i) (i + r) (C.getD i 0)).length, cap58) : Hd)
      have hS3 : Sts ((b58, .cells cur58 3 (0, 0)) :: X ++ T) (h2.set (atF L P L.length) ((h2.getD (atF L P L.length) hd2).1, ((some ⟨b58, 0, none⟩, (addL (addsL ((preL L P).getD (atF L P L.length) sd0).2 C r i) (i + r) (C.getD i 0)).length, cap58) : Hd))) (putL L P C r (i + 1)) := by
        rw [put_succ]
        exact (hS2.mono fun q hq => List.mem_cons_of_mem _ hq).set hat2 ⟨b58, cap58, cur58, rfl, List.mem_cons_self .., ho58⟩
      refine WPt.b hR ?_
      refine WPt.nil (fun hC => ?_); clear hC
      refine WN.normalBlock ?_
      refine WN.next ?_
      refine WC.region ?_
      refine WL.u rfl rfl (Wt.plain rfl) (Ex.move rfl) ?_
      refine WL.u rfl rfl (Wt.plain rfl) (Ex.add rfl rfl (by omega)) ?_
      refine WL.u rfl rfl (Wt.plain rfl) (Ex.assign rfl) ?_
      refine WL.last ?_
      refine WN.round (i + 1, (b58, .cells cur58 3 (0, 0)) :: X, h2.set (atF L P L.length) ((h2.getD (atF L P L.length) hd2).1, ((some ⟨b58, 0, none⟩, (addL (addsL ((preL L P).getD (atF L P L.length) sd0).2 C r i) (i + r) (C.getD i 0)).length, cap58) : Hd)), cur0.setIfInBounds (0 + ((atF L P L.length) : Int).toNat * 2 + 1) (hdV ((some ⟨b58, 0, none⟩, (addL (addsL ((preL L P).getD (atF L P L.length) sd0).2 C r i) (i + r) (C.getD i 0)).length, cap58) : Hd))) (by exact ⟨congrArg (fun q : Nat => some (vsl b0 q cap0)) List.length_set.symm, rfl, rfl, rfl, rfl, trivial⟩) ?_ ?_
      · exact ⟨hH, ho0, hS3, by omega⟩
      · (try dsimp only); omega
    refine WL.u rfl rfl (Wt.plain rfl) (Ex.loadSl flat3 (hH.sl (hcm2 _ hcm) hco) rfl rfl (getD_get C i 0 hlt)) ?_
    refine WPt.b hR ?_
    refine WPt.f rfl ?_
    refine WL.u rfl rfl (Wt.plain rfl) ((Ex.loadHp flat22 rfl hH (ho0.getC (k := 1) hga rfl)).to (congrArg hdV hq)) ?_
    refine WPt.b hR ?_
    refine WPt.f rfl ?_
    refine WL.call callable18 rfl (Wt.plain rfl) rfl rfl (sl10Add (addsL ((preL L P).getD (atF L P L.length) sd0).2 C r i) bq 0 capq (i + r) (C.getD i 0) _ (hH.sl (List.mem_cons_of_mem _ hqm) hqo) hb1 (by omega) (by omega) hb2) ?_
    rintro _ wn ⟨hC2, hN⟩; obtain ⟨b58, cap58, cur58, rfl, hge58, hbb58, ho58⟩ := hN.own; replace hR := hR.trans hC2.nil; replace hH := hH.push hC2 hge58 hbb58; clear hC2 hN
    refine WPt.b hR ?_
    refine WPt.q rfl rfl rfl (Wt.plain rfl) (fun w hC => Ex.indexAddr Try.underlying33 ty41 rfl rfl (by omega)) ?_
    refine WPt.q rfl rfl rfl (Wt.plain rfl) (fun w hC => Ex.fieldAddr fd41_1 rfl) ?_
    refine WPt.f rfl ?_
    replace hH := hH.f1
    refine WL.store1 ty22 rfl rfl rfl (Wt.plain rfl) hH (ho0.idx2 hat3) (by simp) (fun wn hk hH => ?_)
    replace hR := hR.trans (hk.mono (by simp))
    replace ho0 := ho0.set2 hat3 ((some ⟨b58, 0, none⟩, (addL (addsL ((preL L P).getD (atF L P L.length) sd0).2 C r i) (i + r) (C.getD i 0)).length, cap58) : Hd)
    have hS3 : Sts ((b58, .cells cur58 3 (0, 0)) :: X ++ T) (h2.set (atF L P L.length) ((h2.getD (atF L P L.length) hd2).1, ((some ⟨b58, 0, none⟩, (addL (addsL ((preL L P).getD (atF L P L.length) sd0).2 C r i) (i + r) (C.getD i 0)).length, cap58) : Hd))) (putL L P C r (i + 1)) := by
      rw [put_succ]
      exact (hS2.mono fun q hq => List.mem_cons_of_mem _ hq).set hat2 ⟨b58, cap58, cur58, rfl, List.mem_cons_self .., ho58⟩
    refine WPt.b hR ?_
    refine WPt.nil (fun hC => ?_); clear hC
    refine WN.normalBlock ?_
    refine WN.next ?_
    refine WC.region ?_
    refine WL.u rfl rfl (Wt.plain rfl) (Ex.move rfl) ?_
    refine WL.u rfl rfl (Wt.plain rfl) (Ex.add rfl rfl (by omega)) ?_
    refine WL.u rfl rfl (Wt.plain rfl) (Ex.assign rfl) ?_
    refine WL.last ?_
    refine WN.round (i + 1, (b58, .cells cur58 3 (0, 0)) :: X, h2.set (atF L P L.length) ((h2.getD (atF L P L.length) hd2).1, ((some ⟨b58, 0, none⟩, (addL (addsL ((preL L P).getD (atF L P L.length) sd0).2 C r i) (i + r) (C.getD i 0)).length, cap58) : Hd)), cur0.setIfInBounds (0 + ((atF L P L.length) : Int).toNat * 2 + 1) (hdV ((some ⟨b58, 0, none⟩, (addL (addsL ((preL L P).getD (atF L P L.length) sd0).2 C r i) (i + r) (C.getD i 0)).length, cap58) : Hd))) (by exact ⟨congrArg (fun q : Nat => some (vsl b0 q cap0)) List.length_set.symm, rfl, rfl, rfl, rfl, trivial⟩) ?_ ?_
    · exact ⟨hH, ho0, hS3, by omega⟩
    · (try dsimp only); omega
  have hc4' := hc4; try simp only [decide_eq_true_eq, decide_eq_false_iff_not, Bool.not_eq_true', Bool.not_eq_false', Bool.not_eq_true, Bool.not_eq_false] at hc4'
  have hie2 : i = C.length := by omega
  rw [hie2] at hS2
  refine WC.exit ?_
  refine WN.exitThen ?_
  refine WN.exitThen ?_
  refine WN.exitHere ?_
  refine WN.next ?_
  refine WC.seq ?_
  refine WC.region ?_
  refine WL.u rfl rfl (Wt.plain rfl) (Ex.move rfl) ?_
  refine WL.u rfl rfl (Wt.plain rfl) (Ex.assign rfl) ?_
  refine WL.next ?_
  refine WC.ret ?_
  refine WN.body1 rfl rfl ?_
  exact ⟨_, _, _, X, h2, rfl, hH, ho0, hS2⟩

end Go.Proofs.Ytmlkabddhdkpaaa
