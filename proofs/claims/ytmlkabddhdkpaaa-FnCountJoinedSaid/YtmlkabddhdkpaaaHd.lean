/- Heads of slices; lists of grids in memory. -/
import Derived.Test.YtmlkabddhdkpaaaEach
namespace Go.Proofs.Ytmlkabddhdkpaaa
set_option maxRecDepth 100000
set_option linter.unusedSimpArgs false
set_option linter.unusedVariables false
open Go Go.RowKit
/-- the head of a slice -/
abbrev Hd := Option Addr × Nat × Nat
def rHd : Rep Hd := ⟨1, fun h => [.slice h.1 h.2.1 h.2.2], fun h => .slice h.1 h.2.1 h.2.2, fun _ => rfl, by decide, fun _ u h => by rw [List.mem_singleton.1 h]; rfl, fun _ => rfl, fun _ _ => rfl⟩
def hd0 : Hd := (none, 0, 0)
/-- the head of a grid's own row; X does not hold its block -/
def GAt (lo : Nat) (X : List Nat) (w : World) (h : Hd) (g : Grid) : Prop := ∃ b cap cur, h = (some ⟨b, 0, none⟩, g.length, cap) ∧ b ∉ X ∧ lo ≤ b ∧ w.heap[b]? = some (.cells cur 9 (0, 0)) ∧ Own rStr cur cap g
structure Gs (lo : Nat) (X : List Nat) (w : World) (hs : List Hd) (L : List Grid) : Prop where
  len : hs.length = L.length
  get : ∀ (i : Nat) (h : Hd) (g : Grid), hs[i]? = some h → L[i]? = some g → GAt lo X w h g
section
variable {lo : Nat} {X X' S : List Nat} {w w' : World} {h : Hd} {g : Grid} {hs : List Hd} {L : List Grid}
theorem GAt.keep (a : GAt lo X w h g) (k : Keep S w w') (hS : ∀ x, x ∈ S → x ∈ X ∨ x < lo) : GAt lo X w' h g := by
  obtain ⟨b, cap, cur, h1, h2, h3, h4, h5⟩ := a
  refine ⟨b, cap, cur, h1, h2, h3, k.heap h4 (fun hm => ?_), h5⟩
  rcases hS b hm with h6 | h6
  · exact h2 h6
  · omega
theorem GAt.reX (a : GAt lo X w h g) (hX : ∀ x, x ∈ X' → x ∈ X ∨ w.heap.size ≤ x) : GAt lo X' w h g := by
  obtain ⟨b, cap, cur, h1, h2, h3, h4, h5⟩ := a
  refine ⟨b, cap, cur, h1, fun hm => ?_, h3, h4, h5⟩
  have := (Array.getElem?_eq_some_iff.1 h4).1
  rcases hX b hm with h6 | h6
  · exact h2 h6
  · omega
theorem Gs.nil (lo : Nat) (X : List Nat) (w : World) : Gs lo X w [] [] := ⟨rfl, fun i h g h1 _ => by simp at h1⟩
theorem Gs.keep (a : Gs lo X w hs L) (k : Keep S w w') (hS : ∀ x, x ∈ S → x ∈ X ∨ x < lo) : Gs lo X w' hs L := ⟨a.len, fun i h g h1 h2 => (a.get i h g h1 h2).keep k hS⟩
theorem Gs.kept (a : Gs lo X w hs L) (k : Keep [] w w') : Gs lo X w' hs L := a.keep k (by simp)
theorem Gs.reX (a : Gs lo X w hs L) (hX : ∀ x, x ∈ X' → x ∈ X ∨ w.heap.size ≤ x) : Gs lo X' w hs L := ⟨a.len, fun i h g h1 h2 => (a.get i h g h1 h2).reX hX⟩
theorem Gs.snoc (a : Gs lo X w hs L) (b : GAt lo X w h g) : Gs lo X w (hs ++ [h]) (L ++ [g]) := by
  refine ⟨by simp [a.len], fun i h' g' h1 h2 => ?_⟩
  rw [List.getElem?_append] at h1 h2
  by_cases hi : i < hs.length
  · rw [if_pos hi] at h1
    rw [if_pos (by rw [← a.len]; exact hi)] at h2
    exact a.get i h' g' h1 h2
  · rw [if_neg hi] at h1
    rw [if_neg (by rw [← a.len]; exact hi)] at h2
    have e1 : h' = h := by
      rw [List.getElem?_singleton] at h1
      split at h1
      · exact (Option.some.inj h1).symm
      · cases h1
    have e2 : g' = g := by
      rw [List.getElem?_singleton] at h2
      split at h2
      · exact (Option.some.inj h2).symm
      · cases h2
    rw [e1, e2]; exact b
/-- read only -/
structure GsR (w : World) (hs : List Hd) (L : List Grid) : Prop where
  len : hs.length = L.length
  get : ∀ i, i < L.length → rHd.val (hs.getD i hd0) = .slice (hs.getD i hd0).1 (L.getD i []).length (hs.getD i hd0).2.2 ∧ Sl rStr w (hs.getD i hd0).1 (L.getD i [])
theorem Gs.r (a : Gs lo X w hs L) : GsR w hs L := ⟨a.len, fun i hi => by
  have h1 : hs[i]? = some (hs.getD i hd0) := getD_get hs i hd0 (by rw [a.len]; exact hi)
  have h2 : L[i]? = some (L.getD i []) := getD_get L i [] hi
  obtain ⟨b, cap, cur, e, _, _, h4, h5⟩ := a.get i _ _ h1 h2
  refine ⟨?_, ?_⟩
  · show Value.slice _ _ _ = _
    rw [e]
  · rw [e]; exact h5.sl0 h4⟩
theorem GsR.kept (a : GsR w hs L) (k : Keep [] w w') : GsR w' hs L := ⟨a.len, fun i hi => ⟨(a.get i hi).1, (a.get i hi).2.kept k⟩⟩
end
/-- a new list of grids, each a row of its own -/
def NewGs (w0 w : World) (v : Value) (L : List Grid) : Prop := ∃ hs b cap cur, v = vsl b hs.length cap ∧ w0.heap.size ≤ b ∧ w.heap[b]? = some (.cells cur 35 (0, 0)) ∧ Own rHd cur cap hs ∧ Gs w0.heap.size [b] w hs L
theorem Off.swap {α : Type} {r : Rep α} {w : World} {a : Option Addr} {l : List α} {b b' c : Nat} (h : Off [b, c] a l) (hl : Sl r w a l) (hb : b' = b ∨ w.heap.size ≤ b') : Off [b', c] a l := by
  rcases hb with rfl | hb
  · exact h
  · rcases h with h | h
    · exact .inl h
    · rcases hl.offNew hb with h2 | h2
      · exact .inl h2
      · refine .inr fun p hp hm => ?_
        rcases List.mem_cons.1 hm with h3 | h3
        · exact h2 p hp (by rw [h3]; simp)
        · exact h p hp (by rw [List.mem_singleton.1 h3]; simp)
theorem Hp.pair {w : World} {r s : Nat} {o o' : Obj} (hr : w.heap[r]? = some o) (hs : w.heap[s]? = some o') (hne : r ≠ s) : Hp [r, s] w w [(r, o), (s, o')] :=
  ⟨Keep.refl _ w, by
    intro p hp
    rcases List.mem_cons.1 hp with rfl | hp
    · exact hr
    · rw [List.mem_singleton.1 hp]; exact hs, by
    intro p hp
    rcases List.mem_cons.1 hp with rfl | hp
    · exact .inr (by simp)
    · rw [List.mem_singleton.1 hp]; exact .inr (by simp), by simp [hne]⟩
theorem Sl.offNews {α : Type} {r : Rep α} {w : World} {a : Option Addr} {l : List α} {b c : Nat} (h : Sl r w a l) (hb : w.heap.size ≤ b) (hc : w.heap.size ≤ c) : Off [b, c] a l := by
  rcases h.offNew hb with h1 | h1
  · exact .inl h1
  · rcases h.offNew hc with h2 | h2
    · exact .inl h2
    · refine .inr fun p hp hm => ?_
      rcases List.mem_cons.1 hm with h3 | h3
      · exact h1 p hp (by rw [h3]; simp)
      · exact h2 p hp h3
theorem results_tmp4 {fn : Func} {t u s q : Tmp} (h : fn.results = #[.tmp t, .tmp u, .tmp s, .tmp q]) (tmps : Array Value) (P : Program) (w : World) :
    (results fn tmps).run P w = .ok (.tuple #[tmps.getD t undef, tmps.getD u undef, tmps.getD s undef, tmps.getD q undef]) w := by
  simp [results, h]
theorem WN.body4 {P : Program} {n : Nat} {σ : Env} {w : World} {fn : Func} {S : Value → World → Prop} {t u s q : Nat} {v v' v'' v3 : Value} (hr : fn.results = #[.tmp t, .tmp u, .tmp s, .tmp q]) (hv : look σ t = some v) (hv' : look σ u = some v') (hv'' : look σ s = some v'') (hv3 : look σ q = some v3) (h : S (.tuple #[v, v', v'', v3]) w) : WN n (bodyPost P fn (Ret S) .ret) σ w :=
  fun a ha => ⟨ha.defers, _, by rw [results_tmp4 hr, ha.val t v hv, ha.val u v' hv', ha.val s v'' hv'', ha.val q v3 hv3], h⟩
end Go.Proofs.Ytmlkabddhdkpaaa
