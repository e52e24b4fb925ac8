/- Counting by pairings, column by column: the reference's; the laws. -/
import Derived.Test.YtmlkabddhdkpaaaJnU
import Derived.Test.YtmlkabddhdkpaaaJnV
import Derived.Test.YtmlkabddhdkpaaaJnw
import Derived.Test.YtmlkabddhdkpaaaJnq
import Derived.Test.YtmlkabddhdkpaaaLawCR
namespace Go.Proofs.Ytmlkabddhdkpaaa
set_option maxRecDepth 100000
set_option linter.unusedSimpArgs false
set_option linter.unusedVariables false
open Go Go.RowKit
theorem Own.ints1 : Own rInt #[vint 1] 1 [1] := ⟨rfl, Nat.le_refl _, by decide, rfl⟩
structure Cols (n : Nat) (T : List (Nat × Obj)) (cs : List Hd) (c : Nat) : Prop where
  len : cs.length = c
  get : ∀ i, i < c → InT T (cs.getD i hd0) (pF n 1 i)
theorem Cols.mono {n c : Nat} {T T' : List (Nat × Obj)} {cs : List Hd} (a : Cols n T cs c) (h : ∀ x ∈ T, x ∈ T') : Cols n T' cs c := ⟨a.len, fun i hi => (a.get i hi).mono h⟩
theorem Cols.snoc {n c : Nat} {T : List (Nat × Obj)} {cs : List Hd} (a : Cols n T cs c) {h : Hd} (hi : InT T h (pF n 1 c)) : Cols n T (cs ++ [h]) (c + 1) := by
  refine ⟨by simp [a.len], fun i hlt => ?_⟩
  have e : (cs ++ [h]).getD i hd0 = if i < cs.length then cs.getD i hd0 else h := by
    rw [List.getD_eq_getElem?_getD, List.getElem?_append]
    by_cases q : i < cs.length
    · rw [if_pos q, if_pos q, List.getD_eq_getElem?_getD]
    · rw [if_neg q, if_neg q, show i - cs.length = 0 by rw [a.len] at *; omega]; rfl
  rw [e, a.len]
  by_cases q : i < c
  · rw [if_pos q]; exact a.get i q
  · rw [if_neg q, show i = c by omega]; exact hi
theorem newT {S : List Nat} {w0 w : World} {L T : List (Nat × Obj)} {h : Hd} {l : List Int} (hH : Hp [] w0 w L) (hs : ∀ x ∈ T, x ∈ L) (a : InT T h l) : New rInt 3 w0 w (hdV h) l := by
  obtain ⟨b, cap, cur, rfl, h2, h3⟩ := a
  refine ⟨b, cap, cur, rfl, ?_, hH.mem _ (hs _ h2), h3.size, h3.le, by simpa [maxLen] using h3.max, h3.rw⟩
  rcases hH.own _ (hs _ h2) with q | q
  · exact q
  · simp at q

set_option maxHeartbeats 4000000 in
theorem sCountJoined (n m : Int) (w : World) : Fn Try.prog 5 [vint n, vint m] w (fun v w1 => ∃ x, v = .tuple #[x, .bool (countRounds n m).2] ∧ Keep [] w w1 ∧ New rInt 3 w w1 x (countRounds n m).1) := by
  refine Fn.enter (n := 117) Try.func5 rfl rfl rfl ?_
  show WC _ _ _ _ [(0, vint n), (1, vint m)] _
  have hH := Hp.start [] w
  refine WC.seq ?_
  refine WC.region ?_
  refine WL.u rfl rfl (Wt.plain rfl) (Ex.assign rfl) ?_
  refine WL.u rfl rfl (Wt.plain rfl) (Ex.assign rfl) ?_
  refine WL.next ?_
  refine WC.seq ?_
  refine WC.region ?_
  refine WL.lit0 Try.underlying22 ty3 rfl (Wt.plain rfl) hH (fun b18 wn hb18 hk18 hH => ?_)
  have ho18 := Own.nil rInt
  refine WL.u rfl rfl (Wt.plain rfl) (Ex.assign rfl) ?_
  refine WL.next ?_
  refine WC.seq ?_
  refine WC.seq ?_
  refine WC.region ?_
  refine WL.u rfl rfl (Wt.plain rfl) (Ex.move rfl) ?_
  refine WL.u rfl rfl (Wt.plain rfl) (Ex.move rfl) ?_
  refine WL.call callable13 rfl (Wt.plain rfl) rfl rfl (sl10Given _ _ _) ?_
  rintro _ _ ⟨rfl, hw⟩; obtain rfl := hw.symm
  refine WL.u rfl rfl (Wt.plain rfl) (Ex.not rfl) ?_
  refine WL.next ?_
  refine WC.cond rfl (fun hc1 => ?_) (fun hc1 => ?_)
  · have hc1' := hc1; try simp only [decide_eq_true_eq, decide_eq_false_iff_not, Bool.not_eq_true', Bool.not_eq_false', Bool.not_eq_true, Bool.not_eq_false] at hc1'
    have hfw : fewB n m 9 = false := by simpa using hc1
    refine WC.seq ?_
    refine WC.region ?_
    refine WL.u rfl rfl (Wt.plain rfl) (Ex.move rfl) ?_
    refine WL.u rfl rfl (Wt.plain rfl) (Ex.assign rfl) ?_
    refine WL.u rfl rfl (Wt.plain rfl) (Ex.assign rfl) ?_
    refine WL.next ?_
    refine WC.ret ?_
    refine WN.retThen ?_
    refine WN.body2 rfl rfl rfl ?_
    have e := countRounds_not hfw
    exact ⟨_, by rw [e], hH.keep, by rw [e]; exact New.of hH ho18 (hH.base 0 rfl)⟩
  have hc1' := hc1; try simp only [decide_eq_true_eq, decide_eq_false_iff_not, Bool.not_eq_true', Bool.not_eq_false', Bool.not_eq_true, Bool.not_eq_false] at hc1'
  have hfw : fewB n m 9 = true := by simpa using hc1
  obtain ⟨n, m, rfl, rfl, h1, h2, h3, h4, h9⟩ := fewB_ex hfw
  have hp9 := pow9 h9
  have hf := few_of h1 h2 h3 h4 h9
  have h2n : 2 ^ n ≤ 2 ^ 5 := Nat.pow_le_pow_right (by decide) h2
  have h32 : (2 : Nat) ^ 5 = 32 := by decide
  obtain ⟨cap18, hcap18⟩ : ∃ q : Nat, q = 0 := ⟨0, rfl⟩
  refine WC.skip ?_
  refine WN.next ?_
  refine WC.seq ?_
  refine WC.region ?_
  refine WL.lit0 Try.underlying32 ty22 rfl (Wt.plain rfl) hH (fun b24 wn hb24 hk24 hH => ?_)
  have ho24 := Own.nil rHd
  refine WL.u rfl rfl (Wt.plain rfl) (Ex.assign rfl) ?_
  refine WL.next ?_
  refine WC.seq ?_
  refine WC.region ?_
  refine WL.lit0 Try.underlying33 ty41 rfl (Wt.plain rfl) hH (fun b25 wn hb25 hk25 hH => ?_)
  have ho25 := Own.nil rSt
  refine WL.u rfl rfl (Wt.plain rfl) (Ex.assign rfl) ?_
  refine WL.next ?_
  refine WC.seq ?_
  refine WC.seq ?_
  refine WC.region ?_
  refine WL.u rfl rfl (Wt.plain rfl) (Ex.assign rfl) ?_
  refine WL.next ?_
  refine WC.block ?_
  replace hH := hH.f1
  replace hH := hH.f1
  refine WC.loop (ι := Nat × Nat × Nat × (Array Value) × (List Hd) × Nat × Nat × (Array Value) × (List (Hd × Hd)) × (List Ste) × (List (Nat × Obj))) (fun (i, b24, cap24, cur24, cs, b25, cap25, cur25, hs, N, T) => [(0, vint n), (1, vint m), (6, vsl b18 0 cap18), (7, vsl b24 cs.length cap24), (8, vsl b25 hs.length cap25), (9, vint i)]) (fun (i, b24, cap24, cur24, cs, b25, cap25, cur25, hs, N, T) wn => Hp [] w wn ((b25, .cells cur25 41 (0, 0)) :: (b24, .cells cur24 22 (0, 0)) :: T) ∧ Own rHd cur24 cap24 cs ∧ Own rSt cur25 cap25 hs ∧ Cols n T cs i ∧ Sts T hs N ∧ InT T (some ⟨b18, 0, none⟩, 0, cap18) [] ∧ RC n i N ∧ Gd (KP n 1) 101 N ∧ i ≤ 2 ^ n) (fun (i, b24, cap24, cur24, cs, b25, cap25, cur25, hs, N, T) => 2 ^ n - i) ((0, b24, 0, #[], [], b25, 0, #[], [], [], [(b18, .cells #[] 3 (0, 0))])) (by subst hcap18; exact ⟨rfl, rfl, rfl, rfl, rfl, rfl, trivial⟩) ?_ ?_
  · subst hcap18
    exact ⟨hH, ho24, ho25, ⟨rfl, fun i hi => by omega⟩, Sts.nil _, ⟨b18, 0, #[], rfl, by simp, ho18⟩, RC.start n, Gd.nil _ _, Nat.zero_le _⟩
  rintro ⟨i, b24, cap24, cur24, cs, b25, cap25, cur25, hs, N, T⟩ wn ⟨hH, ho24, ho25, hCo, hS, hOut, hRC, hG, hi⟩
  have hcl := hCo.len
  intro mu0 hmu; try dsimp only at hmu
  show WC _ _ _ _ [(0, vint n), (1, vint m), (6, vsl b18 0 cap18), (7, vsl b24 cs.length cap24), (8, vsl b25 hs.length cap25), (9, vint i)] _
  refine WC.seq ?_
  refine WC.seq ?_
  refine WC.region ?_
  refine WL.u rfl rfl (Wt.plain rfl) (Ex.move rfl) ?_
  refine WL.u rfl rfl (Wt.plain rfl) (Ex.move rfl) ?_
  refine WL.u rfl rfl (Wt.plain rfl) ((Ex.shl1 rfl (by omega))) ?_
  refine WL.u rfl rfl (Wt.plain rfl) (Ex.lss rfl rfl) ?_
  refine WL.next ?_
  refine WC.cond rfl (fun hc2 => ?_) (fun hc2 => ?_)
  · have hc2' := hc2; try simp only [decide_eq_true_eq, decide_eq_false_iff_not, Bool.not_eq_true', Bool.not_eq_false', Bool.not_eq_true, Bool.not_eq_false] at hc2'
    have hlt : i < 2 ^ n := by omega
    have hG1 := full_ok i h1 h2 (Nat.le_refl 1) (by decide)
    have h0 := rF_col h1 h2 (show i < 32 by omega)
    refine WC.skip ?_
    refine WN.next ?_
    refine WC.seq ?_
    refine WC.block ?_
    refine WC.seq ?_
    refine WC.region ?_
    refine WL.u rfl rfl (Wt.plain rfl) (Ex.move rfl) ?_
    refine WL.u rfl rfl (Wt.plain rfl) (Ex.move rfl) ?_
    refine WL.u rfl rfl (Wt.plain rfl) (Ex.move rfl) ?_
    refine WL.call callable15 rfl (Wt.plain rfl) rfl rfl (sl3Mirrors n 1 i _ (by omega) (by omega) (by omega)) ?_
    rintro _ wn ⟨hC, hN⟩; obtain ⟨b35, cap35, cur35, rfl, hge35, hbb35, ho35⟩ := hN.own; replace hH := hH.push hC hge35 hbb35; clear hC hN
    refine WL.call callable14 rfl (Wt.plain rfl) rfl rfl (sl2Pairs (full n 1 i) _ _ _ (ho35.slAt hH 0 rfl) hG1) ?_
    rintro _ wn ⟨hC, hN⟩; obtain ⟨b36, cap36, cur36, rfl, hge36, hbb36, ho36⟩ := hN.own; replace hH := hH.push hC hge36 hbb36; clear hC hN
    replace hH := hH.f3
    refine WL.append1 (r := rHd) (u := ((some ⟨b36, 0, none⟩, (pairsI (full n 1 i)).length, cap36) : Hd)) Try.underlying32 ty22 rfl rfl (fun _ => rfl) (fun _ => rfl) rfl rfl (Wt.plain rfl) (fun _ => (Wt.plain rfl)) hH ho24 rfl (by omega) (by omega) (fun b24 cap24 cur24 wn x24 hb24 hk24 hH ho24 => ?_)
    refine WL.u rfl rfl (Wt.plain rfl) (Ex.assign rfl) ?_
    refine WL.next ?_
    refine WC.region ?_
    refine WL.u rfl rfl (Wt.plain rfl) (Ex.move rfl) ?_
    refine WL.u rfl rfl (Wt.plain rfl) (Ex.move rfl) ?_
    refine WL.u rfl rfl (Wt.plain rfl) (Ex.move rfl) ?_
    refine WL.u rfl rfl (Wt.plain rfl) (Ex.indexAddr Try.underlying32 ty22 rfl rfl (by simp only [List.length_append, List.length_singleton]; omega)) ?_
    refine WL.u rfl rfl (Wt.plain rfl) (Ex.loadHp flat22 rfl hH (ho24.get rfl ((by rw [← hcl]; simp : (cs ++ [((some ⟨b36, 0, none⟩, (pairsI (full n 1 i)).length, cap36) : Hd)])[(i : Nat)]? = some ((some ⟨b36, 0, none⟩, (pairsI (full n 1 i)).length, cap36) : Hd))))) ?_
    refine WL.lit Try.underlying22 ty3 rfl rfl rfl rfl rfl rfl rfl (Wt.plain rfl) hH (fun b44 wn hb44 hk44 hH => ?_)
    have hTs : ∀ x, x ∈ T → x ∈ (b24, .cells cur24 22 (0, 0)) :: (b44, .cells #[vint 1] 3 (0, 0)) :: (b36, .cells cur36 3 (0, 0)) :: (b35, .cells cur35 9 (0, 0)) :: T := fun x hx => by simp [hx]
    have hPt : InT ((b24, .cells cur24 22 (0, 0)) :: (b44, .cells #[vint 1] 3 (0, 0)) :: (b36, .cells cur36 3 (0, 0)) :: (b35, .cells cur35 9 (0, 0)) :: T) ((some ⟨b36, 0, none⟩, (pairsI (full n 1 i)).length, cap36) : Hd) (pairsI (full n 1 i)) := ⟨b36, cap36, cur36, rfl, by simp, ho36⟩
    have hCt : InT ((b24, .cells cur24 22 (0, 0)) :: (b44, .cells #[vint 1] 3 (0, 0)) :: (b36, .cells cur36 3 (0, 0)) :: (b35, .cells cur35 9 (0, 0)) :: T) ((some ⟨b44, 0, none⟩, ([1] : List Int).length, 1) : Hd) [1] := ⟨b44, 1, #[vint 1], rfl, by simp, Own.ints1⟩
    have htN := hRC.tot
    obtain ⟨hb1, hb2⟩ := hG.lb (by decide) (by omega)
    have hKn : KP n 1 (pairsI (full n 1 i)) := ⟨i, by rw [Nat.mul_one]; exact hlt, rfl⟩
    have hKl := hKn.len h1
    have hG2 := hG.put hKn one_pos (r := 0) (by decide)
    replace hH := hH.f1
    replace hH := hH.f4
    refine WL.call callable16 rfl (Wt.plain rfl) rfl rfl (sl10Put [] w b25 cap25 b36 cap36 b44 1 cur25 _ hs N (pairsI (full n 1 i)) [1] 0 _ hH ho25 (hS.mono hTs) hPt hCt (fun j hj => by rw [hKl]; exact (hG j hj).1.len h1) hb1 hb2 one_bd (by decide)) ?_
    rintro _ wn ⟨bz, capz, curz, X, hsz, rfl, hH, hoz, hSz⟩; replace hH := hH.mid1; replace hSz := hSz.drop (by decide); have hTx : ∀ x, x ∈ T → x ∈ X ++ ((b44, .cells #[vint 1] 3 (0, 0)) :: (b36, .cells cur36 3 (0, 0)) :: (b35, .cells cur35 9 (0, 0)) :: T) := fun x hx => by simp [hx]
    have hIn : InT (X ++ ((b44, .cells #[vint 1] 3 (0, 0)) :: (b36, .cells cur36 3 (0, 0)) :: (b35, .cells cur35 9 (0, 0)) :: T)) ((some ⟨b36, 0, none⟩, (pairsI (full n 1 i)).length, cap36) : Hd) (pairsI (full n 1 i)) := ⟨b36, cap36, cur36, rfl, by simp, ho36⟩
    refine WL.u rfl rfl (Wt.plain rfl) (Ex.assign rfl) ?_
    refine WL.last ?_
    refine WN.normalBlock ?_
    refine WN.next ?_
    refine WC.region ?_
    refine WL.u rfl rfl (Wt.plain rfl) (Ex.move rfl) ?_
    refine WL.u rfl rfl (Wt.plain rfl) (Ex.add rfl rfl (by omega)) ?_
    refine WL.u rfl rfl (Wt.plain rfl) (Ex.assign rfl) ?_
    refine WL.last ?_
    replace hH := hH.f1
    replace hH := hH.f1
    refine WN.round (i + 1, b24, cap24, cur24, cs ++ [((some ⟨b36, 0, none⟩, (pairsI (full n 1 i)).length, cap36) : Hd)], bz, capz, curz, hsz, putL N (pairsI (full n 1 i)) [1] 0 1, X ++ ((b44, .cells #[vint 1] 3 (0, 0)) :: (b36, .cells cur36 3 (0, 0)) :: (b35, .cells cur35 9 (0, 0)) :: T)) (by exact ⟨rfl, rfl, rfl, rfl, rfl, rfl, trivial⟩) ?_ ?_
    · exact ⟨hH, ho24, hoz, (hCo.mono hTx).snoc hIn, hSz, hOut.mono hTx, hRC.put h0, hG2, by omega⟩
    · (try dsimp only); omega
  have hc2' := hc2; try simp only [decide_eq_true_eq, decide_eq_false_iff_not, Bool.not_eq_true', Bool.not_eq_false', Bool.not_eq_true, Bool.not_eq_false] at hc2'
  have hie : i = 2 ^ n := by omega
  rw [hie] at hCo hRC
  have hcl2 := hCo.len
  have hRep := hRC.done
  refine WC.exit ?_
  refine WN.exitThen ?_
  refine WN.exitThen ?_
  refine WN.exitHere ?_
  refine WN.next ?_
  refine WC.seq ?_
  refine WC.seq ?_
  refine WC.region ?_
  refine WL.u rfl rfl (Wt.plain rfl) (Ex.assign rfl) ?_
  refine WL.next ?_
  refine WC.block ?_
  replace hH := hH.f1
  replace hH := hH.f1
  refine WC.loop (ι := Nat × Nat × Nat × (Array Value) × (List (Hd × Hd)) × (List Ste) × (List (Nat × Obj))) (fun (k, b25, cap25, cur25, hs, N, T) => [(0, vint n), (1, vint m), (6, vsl b18 0 cap18), (7, vsl b24 cs.length cap24), (8, vsl b25 hs.length cap25), (10, vint k)]) (fun (k, b25, cap25, cur25, hs, N, T) wn => Hp [] w wn ((b25, .cells cur25 41 (0, 0)) :: (b24, .cells cur24 22 (0, 0)) :: T) ∧ Own rSt cur25 cap25 hs ∧ Cols n T cs (2 ^ n) ∧ Sts T hs N ∧ InT T (some ⟨b18, 0, none⟩, 0, cap18) [] ∧ RepS n k N ∧ Gd (KP n k) (101 * k) N ∧ 1 ≤ k ∧ k ≤ m) (fun (k, b25, cap25, cur25, hs, N, T) => m - k) ((1, b25, cap25, cur25, hs, N, T)) (by exact ⟨rfl, rfl, rfl, rfl, rfl, rfl, trivial⟩) ?_ ?_
  · exact ⟨hH, ho25, hCo, hS, hOut, hRep, hG, Nat.le_refl _, h3⟩
  rintro ⟨k, b25, cap25, cur25, hs, N, T⟩ wn ⟨hH, ho25, hCo, hS, hOut, hRep, hG, hk1, hkm⟩
  have hsl := hS.len
  intro mu0 hmu; try dsimp only at hmu
  show WC _ _ _ _ [(0, vint n), (1, vint m), (6, vsl b18 0 cap18), (7, vsl b24 cs.length cap24), (8, vsl b25 hs.length cap25), (10, vint k)] _
  refine WC.seq ?_
  refine WC.seq ?_
  refine WC.region ?_
  refine WL.u rfl rfl (Wt.plain rfl) (Ex.move rfl) ?_
  refine WL.u rfl rfl (Wt.plain rfl) (Ex.move rfl) ?_
  refine WL.u rfl rfl (Wt.plain rfl) (Ex.lss rfl rfl) ?_
  refine WL.next ?_
  refine WC.cond rfl (fun hc3 => ?_) (fun hc3 => ?_)
  · have hc3' := hc3; try simp only [decide_eq_true_eq, decide_eq_false_iff_not, Bool.not_eq_true', Bool.not_eq_false', Bool.not_eq_true, Bool.not_eq_false] at hc3'
    have hx : Nx n k := hf.nx hk1 (by omega)
    have hx5 := hx.k5
    have ht9 := Nat.pow_le_pow_right (n := 2) (by decide) hx.f.1.nm
    have h512 : (2 : Nat) ^ 9 = 512 := by decide
    have htN := hRep.tot
    obtain ⟨hb1, hb2⟩ := hG.lb (by omega) (by omega)
    refine WC.skip ?_
    refine WN.next ?_
    refine WC.seq ?_
    refine WC.block ?_
    refine WC.seq ?_
    refine WC.region ?_
    refine WL.lit0 Try.underlying33 ty41 rfl (Wt.plain rfl) hH (fun b51 wn hb51 hk51 hH => ?_)
    have ho51 := Own.nil rSt
    refine WL.u rfl rfl (Wt.plain rfl) (Ex.assign rfl) ?_
    refine WL.next ?_
    refine WC.seq ?_
    refine WC.seq ?_
    refine WC.region ?_
    refine WL.u rfl rfl (Wt.plain rfl) (Ex.assign rfl) ?_
    refine WL.next ?_
    refine WC.block ?_
    replace hH := hH.f2
    replace hH := hH.f2
    replace hH := hH.f2
    refine WC.loop (ι := Nat × Nat × Nat × (Array Value) × (List (Hd × Hd)) × (List Ste) × (List (Nat × Obj))) (fun (i, b51, cap51, cur51, hs2, N2, T2) => [(0, vint n), (1, vint m), (6, vsl b18 0 cap18), (7, vsl b24 cs.length cap24), (8, vsl b25 hs.length cap25), (10, vint k), (11, vsl b51 hs2.length cap51), (12, vint i)]) (fun (i, b51, cap51, cur51, hs2, N2, T2) wn => Hp [] w wn ((b51, .cells cur51 41 (0, 0)) :: (b25, .cells cur25 41 (0, 0)) :: (b24, .cells cur24 22 (0, 0)) :: T2) ∧ Own rSt cur51 cap51 hs2 ∧ Sts T2 hs2 N2 ∧ (∀ x, x ∈ T → x ∈ T2) ∧ Gd (KP n (k + 1)) (101 * (k + 1)) N2 ∧ RN n k N i 0 N2 ∧ i ≤ N.length) (fun (i, b51, cap51, cur51, hs2, N2, T2) => N.length - i) ((0, b51, 0, #[], [], [], T)) (by exact ⟨rfl, rfl, rfl, rfl, rfl, rfl, rfl, rfl, trivial⟩) ?_ ?_
    · exact ⟨hH, ho51, Sts.nil _, fun _ h => h, Gd.nil _ _, RN.start, Nat.zero_le _⟩
    rintro ⟨i, b51, cap51, cur51, hs2, N2, T2⟩ wn ⟨hH, ho51, hS2, hTT, hG2, hRN, hi⟩
    intro mu0 hmu; try dsimp only at hmu
    show WC _ _ _ _ [(0, vint n), (1, vint m), (6, vsl b18 0 cap18), (7, vsl b24 cs.length cap24), (8, vsl b25 hs.length cap25), (10, vint k), (11, vsl b51 hs2.length cap51), (12, vint i)] _
    refine WC.seq ?_
    refine WC.seq ?_
    refine WC.region ?_
    refine WL.u rfl rfl (Wt.plain rfl) (Ex.move rfl) ?_
    refine WL.u rfl rfl (Wt.plain rfl) (Ex.move rfl) ?_
    refine WL.u rfl rfl (Wt.plain rfl) (Ex.lenSl Try.underlying33 rfl) ?_
    refine WL.u rfl rfl (Wt.plain rfl) (Ex.lss rfl rfl) ?_
    refine WL.next ?_
    refine WC.cond rfl (fun hc4 => ?_) (fun hc4 => ?_)
    · have hc4' := hc4; try simp only [decide_eq_true_eq, decide_eq_false_iff_not, Bool.not_eq_true', Bool.not_eq_false', Bool.not_eq_true, Bool.not_eq_false] at hc4'
      have hlt : i < N.length := by omega
      refine WC.skip ?_
      refine WN.next ?_
      refine WC.seq ?_
      refine WC.block ?_
      refine WC.seq ?_
      refine WC.region ?_
      refine WL.u rfl rfl (Wt.plain rfl) (Ex.assign rfl) ?_
      refine WL.next ?_
      refine WC.block ?_
      replace hH := hH.f2
      replace hH := hH.f2
      replace hH := hH.f2
      refine WC.loop (ι := Nat × Nat × Nat × (Array Value) × (List (Hd × Hd)) × (List Ste) × (List (Nat × Obj))) (fun (c, b51, cap51, cur51, hs2, N2, T2) => [(0, vint n), (1, vint m), (6, vsl b18 0 cap18), (7, vsl b24 cs.length cap24), (8, vsl b25 hs.length cap25), (10, vint k), (11, vsl b51 hs2.length cap51), (12, vint i), (13, vint c)]) (fun (c, b51, cap51, cur51, hs2, N2, T2) wn => Hp [] w wn ((b51, .cells cur51 41 (0, 0)) :: (b25, .cells cur25 41 (0, 0)) :: (b24, .cells cur24 22 (0, 0)) :: T2) ∧ Own rSt cur51 cap51 hs2 ∧ Sts T2 hs2 N2 ∧ (∀ x, x ∈ T → x ∈ T2) ∧ Gd (KP n (k + 1)) (101 * (k + 1)) N2 ∧ RN n k N i c N2 ∧ c ≤ 2 ^ n) (fun (c, b51, cap51, cur51, hs2, N2, T2) => 2 ^ n - c) ((0, b51, cap51, cur51, hs2, N2, T2)) (by exact ⟨rfl, rfl, rfl, rfl, rfl, rfl, rfl, rfl, rfl, trivial⟩) ?_ ?_
      · exact ⟨hH, ho51, hS2, hTT, hG2, hRN, Nat.zero_le _⟩
      rintro ⟨c, b51, cap51, cur51, hs2, N2, T2⟩ wn ⟨hH, ho51, hS2, hTT, hG2, hRN, hc⟩
      intro mu0 hmu; try dsimp only at hmu
      show WC _ _ _ _ [(0, vint n), (1, vint m), (6, vsl b18 0 cap18), (7, vsl b24 cs.length cap24), (8, vsl b25 hs.length cap25), (10, vint k), (11, vsl b51 hs2.length cap51), (12, vint i), (13, vint c)] _
      refine WC.seq ?_
      refine WC.seq ?_
      refine WC.region ?_
      refine WL.u rfl rfl (Wt.plain rfl) (Ex.move rfl) ?_
      refine WL.u rfl rfl (Wt.plain rfl) (Ex.move rfl) ?_
      refine WL.u rfl rfl (Wt.plain rfl) (Ex.lenSl Try.underlying32 rfl) ?_
      refine WL.u rfl rfl (Wt.plain rfl) (Ex.lss rfl rfl) ?_
      refine WL.next ?_
      refine WC.cond rfl (fun hc5 => ?_) (fun hc5 => ?_)
      · have hc5' := hc5; try simp only [decide_eq_true_eq, decide_eq_false_iff_not, Bool.not_eq_true', Bool.not_eq_false', Bool.not_eq_true, Bool.not_eq_false] at hc5'
        have hlc : c < 2 ^ n := by omega
        obtain ⟨⟨b, hbl, hbP⟩, hPos, hlen⟩ := hG i hlt
        obtain ⟨⟨bq, capq, curq, hq, hqm, hqo⟩, hq2⟩ := hS.get i hlt
        obtain ⟨bd, capd, curd, hd, hdm, hdo⟩ := id hq2
        obtain ⟨be, cape, cure, he, hem, heo⟩ := hCo.get c hlc
        rw [← hbP] at hq hqo
        have hgi := getD_get hs i hd2 (by omega)
        have hgc := getD_get cs c hd0 (by omega)
        have J := hx.jf b c
        have hgg : (besD (full n k b) (full n 1 c)).G = full n (k + 1) (gl n k b c) := hx.join hbl hlc
        have hfix : ∀ q, q ∈ T → q ∈ (b51, .cells cur51 41 (0, 0)) :: (b25, .cells cur25 41 (0, 0)) :: (b24, .cells cur24 22 (0, 0)) :: T2 := fun q hq => by simp [hTT q hq]
        refine WC.skip ?_
        refine WN.next ?_
        refine WC.seq ?_
        refine WC.block ?_
        refine WC.seq ?_
        have hQ := hH
        refine WC.plan (Keep [] _) [(0, true), (1, true), (2, true), (3, true), (4, true), (5, true), (6, true), (7, true), (8, true), (9, true), (10, true), (11, false), (12, true), (13, true), (14, true), (15, true), (16, true)] rfl (by kernel_rfl) (Keep.drew _ _) (fun hR => ?_)
        replace hH := hH.drew
        refine WPl.q rfl rfl rfl (Wt.plain rfl) (fun w hC => Ex.move rfl) ?_
        refine WPl.q rfl rfl rfl (Wt.plain rfl) (fun w hC => Ex.move rfl) ?_
        refine WPl.q rfl rfl rfl (Wt.plain rfl) (fun w hC => Ex.move rfl) ?_
        refine WPl.q rfl rfl rfl (Wt.plain rfl) (fun w hC => Ex.move rfl) ?_
        refine WPl.q rfl rfl rfl (Wt.plain rfl) (fun w hC => Ex.indexAddr Try.underlying33 ty41 rfl rfl (by omega)) ?_
        refine WPl.q rfl rfl rfl (Wt.plain rfl) (fun w hC => Ex.fieldAddr fd41_0 rfl) ?_
        refine WPl.q rfl rfl rfl (Wt.plain rfl) (fun w hC => (Ex.loadK flat22 rfl (hQ.at 1 rfl) hC (by simp) (ho25.getC (k := 0) hgi rfl)).to (congrArg hdV hq)) ?_
        refine WPl.q rfl rfl rfl (Wt.plain rfl) (fun w hC => Ex.move rfl) ?_
        refine WPl.q rfl rfl rfl (Wt.plain rfl) (fun w hC => Ex.move rfl) ?_
        refine WPl.q rfl rfl rfl (Wt.plain rfl) (fun w hC => Ex.indexAddr Try.underlying32 ty22 rfl rfl (by omega)) ?_
        refine WPl.q rfl rfl rfl (Wt.plain rfl) (fun w hC => (Ex.loadK flat22 rfl (hQ.at 2 rfl) hC (by simp) (ho24.get rfl hgc)).to (congrArg hdV he)) ?_
        refine WPl.f rfl ?_
        refine WL.call callable17 rfl (Wt.plain rfl) rfl rfl (sl6jJoined (besD (full n k b) (full n 1 c)) (full n k b) (full n 1 c) n k 1 _ _ _ _ _ J (hH.sl (hfix _ hqm) hqo) (hH.sl (hfix _ hem) heo)) ?_
        rintro _ wn ⟨x, q, rfl, hC2, hN, hrd⟩; rw [hgg] at hN hrd; obtain ⟨hpj, hqs, hKn, hq100⟩ := hx.step hbl hlc hbP hrd; rw [hpj] at hN; obtain ⟨b76, cap76, cur76, rfl, hge76, hbb76, ho76⟩ := hN.own; replace hR := hR.trans hC2.nil; replace hH := hH.push hC2 hge76 hbb76; clear hC2 hN
        refine WPl.b hR ?_
        refine WPl.q rfl rfl rfl (Wt.plain rfl) (fun w hC => Ex.move rfl) ?_
        refine WPl.q rfl rfl rfl (Wt.plain rfl) (fun w hC => Ex.extract rfl rfl) ?_
        refine WPl.q rfl rfl rfl (Wt.plain rfl) (fun w hC => Ex.extract rfl rfl) ?_
        refine WPl.q rfl rfl rfl (Wt.plain rfl) (fun w hC => Ex.assign rfl) ?_
        refine WPl.q rfl rfl rfl (Wt.plain rfl) (fun w hC => Ex.assign rfl) ?_
        refine WPl.nil (fun hC => ?_); clear hC
        refine WN.next ?_
        refine WC.region ?_
        refine WL.u rfl rfl (Wt.plain rfl) (Ex.move rfl) ?_
        refine WL.u rfl rfl (Wt.plain rfl) (Ex.move rfl) ?_
        refine WL.u rfl rfl (Wt.plain rfl) (Ex.move rfl) ?_
        refine WL.u rfl rfl (Wt.plain rfl) (Ex.move rfl) ?_
        refine WL.u rfl rfl (Wt.plain rfl) (Ex.indexAddr Try.underlying33 ty41 rfl rfl (by omega)) ?_
        refine WL.u rfl rfl (Wt.plain rfl) (Ex.fieldAddr fd41_1 rfl) ?_
        refine WL.u rfl rfl (Wt.plain rfl) ((Ex.loadHp flat22 rfl (hH.front 2 rfl) (ho25.getC (k := 1) hgi rfl)).to (congrArg hdV hd)) ?_
        refine WL.u rfl rfl (Wt.plain rfl) (Ex.move rfl) ?_
        subst hqs
        have hTs : ∀ x, x ∈ T2 → x ∈ (b25, .cells cur25 41 (0, 0)) :: (b24, .cells cur24 22 (0, 0)) :: (b76, .cells cur76 3 (0, 0)) :: T2 := fun x hx => by simp [hx]
        have hPt : InT ((b25, .cells cur25 41 (0, 0)) :: (b24, .cells cur24 22 (0, 0)) :: (b76, .cells cur76 3 (0, 0)) :: T2) ((some ⟨b76, 0, none⟩, (pj n k (N.getD i sd0).1 c).length, cap76) : Hd) (pj n k (N.getD i sd0).1 c) := ⟨b76, cap76, cur76, rfl, by simp, ho76⟩
        have hCt : InT ((b25, .cells cur25 41 (0, 0)) :: (b24, .cells cur24 22 (0, 0)) :: (b76, .cells cur76 3 (0, 0)) :: T2) ((some ⟨bd, 0, none⟩, (N.getD i sd0).2.length, capd) : Hd) (N.getD i sd0).2 := by rw [← hd]; exact hq2.mono fun x hx => hTs x (hTT x hx)
        have htN2 := hRN.tot hx hRep hG hlt hc
        obtain ⟨hb3, hb4⟩ := hG2.lb (by omega) htN2
        have hKl := hKn.len h1
        have hG3 := hG2.put hKn hPos (r := sj n k (N.getD i sd0).1 c) (by omega)
        replace hH := hH.f3
        replace hH := hH.f3
        replace hH := hH.f3
        refine WL.call callable16 rfl (Wt.plain rfl) rfl rfl (sl10Put [] w b51 cap51 b76 cap76 bd capd cur51 _ hs2 N2 (pj n k (N.getD i sd0).1 c) (N.getD i sd0).2 (sj n k (N.getD i sd0).1 c) _ hH ho51 (hS2.mono hTs) hPt hCt (fun j hj => by rw [hKl]; exact (hG2 j hj).1.len h1) hb3 hb4 (hb2 i hlt) hq100) ?_
        rintro _ wn ⟨bz, capz, curz, X, hsz, rfl, hH, hoz, hSz⟩; replace hH := hH.mid2; replace hSz := (hSz.drop (by decide)).drop (by decide); have hTx : ∀ x, x ∈ T2 → x ∈ X ++ ((b76, .cells cur76 3 (0, 0)) :: T2) := fun x hx => by simp [hx]
        refine WL.u rfl rfl (Wt.plain rfl) (Ex.assign rfl) ?_
        refine WL.last ?_
        refine WN.normalBlock ?_
        refine WN.next ?_
        refine WC.region ?_
        refine WL.u rfl rfl (Wt.plain rfl) (Ex.move rfl) ?_
        refine WL.u rfl rfl (Wt.plain rfl) (Ex.add rfl rfl (by omega)) ?_
        refine WL.u rfl rfl (Wt.plain rfl) (Ex.assign rfl) ?_
        refine WL.last ?_
        replace hH := hH.f2
        replace hH := hH.f2
        replace hH := hH.f2
        refine WN.round (c + 1, bz, capz, curz, hsz, putL N2 (pj n k (N.getD i sd0).1 c) (N.getD i sd0).2 (sj n k (N.getD i sd0).1 c) (N.getD i sd0).2.length, X ++ ((b76, .cells cur76 3 (0, 0)) :: T2)) (by exact ⟨rfl, rfl, rfl, rfl, rfl, rfl, rfl, rfl, rfl, trivial⟩) ?_ ?_
        · exact ⟨hH, hoz, hSz, fun x hx => hTx x (hTT x hx), hG3, hRN.put, by omega⟩
        · (try dsimp only); omega
      have hc5' := hc5; try simp only [decide_eq_true_eq, decide_eq_false_iff_not, Bool.not_eq_true', Bool.not_eq_false', Bool.not_eq_true, Bool.not_eq_false] at hc5'
      have hce : c = 2 ^ n := by omega
      rw [hce] at hRN
      refine WC.exit ?_
      refine WN.exitThen ?_
      refine WN.exitThen ?_
      refine WN.exitHere ?_
      refine WN.normalBlock ?_
      refine WN.next ?_
      refine WC.region ?_
      refine WL.u rfl rfl (Wt.plain rfl) (Ex.move rfl) ?_
      refine WL.u rfl rfl (Wt.plain rfl) (Ex.add rfl rfl (by omega)) ?_
      refine WL.u rfl rfl (Wt.plain rfl) (Ex.assign rfl) ?_
      refine WL.last ?_
      replace hH := hH.f2
      replace hH := hH.f2
      replace hH := hH.f2
      refine WN.round (i + 1, b51, cap51, cur51, hs2, N2, T2) (by exact ⟨rfl, rfl, rfl, rfl, rfl, rfl, rfl, rfl, trivial⟩) ?_ ?_
      · exact ⟨hH, ho51, hS2, hTT, hG2, hRN.row, by omega⟩
      · (try dsimp only); omega
    have hc4' := hc4; try simp only [decide_eq_true_eq, decide_eq_false_iff_not, Bool.not_eq_true', Bool.not_eq_false', Bool.not_eq_true, Bool.not_eq_false] at hc4'
    have hie : i = N.length := by omega
    rw [hie] at hRN
    have hRep2 := hRN.done hx hRep
    have hTc : ∀ x, x ∈ T → x ∈ (b25, .cells cur25 41 (0, 0)) :: T2 := fun x hx => List.mem_cons_of_mem _ (hTT x hx)
    have hTd : ∀ x, x ∈ T2 → x ∈ (b25, .cells cur25 41 (0, 0)) :: T2 := fun x hx => List.mem_cons_of_mem _ hx
    refine WC.exit ?_
    refine WN.exitThen ?_
    refine WN.exitThen ?_
    refine WN.exitHere ?_
    refine WN.next ?_
    refine WC.region ?_
    refine WL.u rfl rfl (Wt.plain rfl) (Ex.move rfl) ?_
    refine WL.u rfl rfl (Wt.plain rfl) (Ex.assign rfl) ?_
    refine WL.last ?_
    refine WN.normalBlock ?_
    refine WN.next ?_
    refine WC.region ?_
    refine WL.u rfl rfl (Wt.plain rfl) (Ex.move rfl) ?_
    refine WL.u rfl rfl (Wt.plain rfl) (Ex.add rfl rfl (by omega)) ?_
    refine WL.u rfl rfl (Wt.plain rfl) (Ex.assign rfl) ?_
    refine WL.last ?_
    replace hH := hH.f2
    replace hH := hH.f1
    refine WN.round (k + 1, b51, cap51, cur51, hs2, N2, (b25, .cells cur25 41 (0, 0)) :: T2) (by exact ⟨rfl, rfl, rfl, rfl, rfl, rfl, trivial⟩) ?_ ?_
    · exact ⟨hH, ho51, hCo.mono hTc, hS2.mono hTd, hOut.mono hTc, hRep2, hG2, by omega, by omega⟩
    · (try dsimp only); omega
  have hc3' := hc3; try simp only [decide_eq_true_eq, decide_eq_false_iff_not, Bool.not_eq_true', Bool.not_eq_false', Bool.not_eq_true, Bool.not_eq_false] at hc3'
  have hke : k = m := by omega
  rw [hke] at hRep hG
  have ht9 := Nat.pow_le_pow_right (n := 2) (by decide) hf.nm
  have h512 : (2 : Nat) ^ 9 = 512 := by decide
  have htN := hRep.tot
  have hgb := hG.lb (by omega) (by omega)
  have hG101 : 101 * m ≤ 600 := by omega
  refine WC.exit ?_
  refine WN.exitThen ?_
  refine WN.exitThen ?_
  refine WN.exitHere ?_
  refine WN.next ?_
  refine WC.seq ?_
  refine WC.seq ?_
  refine WC.region ?_
  refine WL.u rfl rfl (Wt.plain rfl) (Ex.assign rfl) ?_
  refine WL.next ?_
  refine WC.block ?_
  refine WC.loop (ι := Nat × Nat × Nat × (List Int) × (List (Nat × Obj))) (fun (i, bo, capo, o, T) => [(6, vsl bo o.length capo), (8, vsl b25 hs.length cap25), (16, vint i)]) (fun (i, bo, capo, o, T) wn => Hp [] w wn ((b25, .cells cur25 41 (0, 0)) :: T) ∧ Sts T hs N ∧ InT T (some ⟨bo, 0, none⟩, o.length, capo) o ∧ o = outI N i ∧ i ≤ N.length) (fun (i, bo, capo, o, T) => N.length - i) ((0, b18, cap18, [], (b24, .cells cur24 22 (0, 0)) :: T)) (by exact ⟨rfl, rfl, rfl, trivial⟩) ?_ ?_
  · exact ⟨hH, hS.mono fun _ h => List.mem_cons_of_mem _ h, hOut.mono fun _ h => List.mem_cons_of_mem _ h, rfl, Nat.zero_le _⟩
  rintro ⟨i, bo, capo, o, T⟩ wn ⟨hH, hS, hOut, ho, hi⟩
  intro mu0 hmu; try dsimp only at hmu
  show WC _ _ _ _ [(6, vsl bo o.length capo), (8, vsl b25 hs.length cap25), (16, vint i)] _
  refine WC.seq ?_
  refine WC.seq ?_
  refine WC.region ?_
  refine WL.u rfl rfl (Wt.plain rfl) (Ex.move rfl) ?_
  refine WL.u rfl rfl (Wt.plain rfl) (Ex.move rfl) ?_
  refine WL.u rfl rfl (Wt.plain rfl) (Ex.lenSl Try.underlying33 rfl) ?_
  refine WL.u rfl rfl (Wt.plain rfl) (Ex.lss rfl rfl) ?_
  refine WL.next ?_
  refine WC.cond rfl (fun hc6 => ?_) (fun hc6 => ?_)
  · have hc6' := hc6; try simp only [decide_eq_true_eq, decide_eq_false_iff_not, Bool.not_eq_true', Bool.not_eq_false', Bool.not_eq_true, Bool.not_eq_false] at hc6'
    have hlt : i < N.length := by omega
    have hgi := getD_get hs i hd2 (by omega)
    refine WC.skip ?_
    refine WN.next ?_
    refine WC.seq ?_
    refine WC.block ?_
    refine WC.seq ?_
    refine WC.region ?_
    refine WL.u rfl rfl (Wt.plain rfl) (Ex.assign rfl) ?_
    refine WL.next ?_
    refine WC.block ?_
    refine WC.loop (ι := Nat × Nat × Nat × (List Int) × (List (Nat × Obj))) (fun (r, bo, capo, o, T) => [(6, vsl bo o.length capo), (8, vsl b25 hs.length cap25), (16, vint i), (17, vint r)]) (fun (r, bo, capo, o, T) wn => Hp [] w wn ((b25, .cells cur25 41 (0, 0)) :: T) ∧ Sts T hs N ∧ InT T (some ⟨bo, 0, none⟩, o.length, capo) o ∧ o = addsL (outI N i) (N.getD i sd0).2 0 r ∧ r ≤ (N.getD i sd0).2.length) (fun (r, bo, capo, o, T) => (N.getD i sd0).2.length - r) ((0, bo, capo, o, T)) (by exact ⟨rfl, rfl, rfl, rfl, trivial⟩) ?_ ?_
    · exact ⟨hH, hS, hOut, by rw [ho]; rfl, Nat.zero_le _⟩
    rintro ⟨r, bo, capo, o, T⟩ wn ⟨hH, hS, hOut, ho, hr⟩
    obtain ⟨_, bd, capd, curd, hd, hdm, hdo⟩ := hS.get i hlt
    obtain ⟨bo2, capo2, curo, hoe, hom, hoo⟩ := id hOut
    obtain ⟨rfl, rfl⟩ : bo = bo2 ∧ capo = capo2 := by simpa using hoe
    intro mu0 hmu; try dsimp only at hmu
    show WC _ _ _ _ [(6, vsl bo o.length capo), (8, vsl b25 hs.length cap25), (16, vint i), (17, vint r)] _
    refine WC.seq ?_
    refine WC.seq ?_
    refine WC.region ?_
    refine WL.u rfl rfl (Wt.plain rfl) (Ex.move rfl) ?_
    refine WL.u rfl rfl (Wt.plain rfl) (Ex.move rfl) ?_
    refine WL.u rfl rfl (Wt.plain rfl) (Ex.move rfl) ?_
    refine WL.u rfl rfl (Wt.plain rfl) (Ex.indexAddr Try.underlying33 ty41 rfl rfl (by omega)) ?_
    refine WL.u rfl rfl (Wt.plain rfl) (Ex.fieldAddr fd41_1 rfl) ?_
    refine WL.u rfl rfl (Wt.plain rfl) ((Ex.loadHp flat22 rfl hH (ho25.getC (k := 1) hgi rfl)).to (congrArg hdV hd)) ?_
    refine WL.u rfl rfl (Wt.plain rfl) (Ex.lenSl Try.underlying22 rfl) ?_
    refine WL.u rfl rfl (Wt.plain rfl) (Ex.lss rfl rfl) ?_
    refine WL.next ?_
    refine WC.cond rfl (fun hc7 => ?_) (fun hc7 => ?_)
    · have hc7' := hc7; try simp only [decide_eq_true_eq, decide_eq_false_iff_not, Bool.not_eq_true', Bool.not_eq_false', Bool.not_eq_true, Bool.not_eq_false] at hc7'
      have hlr : r < (N.getD i sd0).2.length := by omega
      obtain ⟨hb5, hb6⟩ := out_bd hgb hG hG101 hlt hr
      rw [← ho] at hb5 hb6
      have hb7 := (hgb.2 i hlt).2 r
      have hb8 := (hgb.2 i hlt).1
      refine WC.skip ?_
      refine WN.next ?_
      refine WC.seq ?_
      refine WC.block ?_
      refine WC.region ?_
      refine WL.u rfl rfl (Wt.plain rfl) (Ex.move rfl) ?_
      refine WL.u rfl rfl (Wt.plain rfl) (Ex.move rfl) ?_
      refine WL.u rfl rfl (Wt.plain rfl) (Ex.move rfl) ?_
      refine WL.u rfl rfl (Wt.plain rfl) (Ex.move rfl) ?_
      refine WL.u rfl rfl (Wt.plain rfl) (Ex.indexAddr Try.underlying33 ty41 rfl rfl (by omega)) ?_
      refine WL.u rfl rfl (Wt.plain rfl) (Ex.fieldAddr fd41_1 rfl) ?_
      refine WL.u rfl rfl (Wt.plain rfl) ((Ex.loadHp flat22 rfl hH (ho25.getC (k := 1) hgi rfl)).to (congrArg hdV hd)) ?_
      refine WL.u rfl rfl (Wt.plain rfl) (Ex.move rfl) ?_
      refine WL.u rfl rfl (Wt.plain rfl) (Ex.indexAddr Try.underlying22 ty3 rfl rfl (by (try dsimp only); omega)) ?_
      refine WL.u rfl rfl (Wt.plain rfl) (Ex.loadSl flat3 (hH.sl (List.mem_cons_of_mem _ hdm) hdo) rfl rfl (getD_get (N.getD i sd0).2 r 0 hlr)) ?_
      refine WL.call callable18 rfl (Wt.plain rfl) rfl rfl (sl10Add o bo 0 capo r ((N.getD i sd0).2.getD r 0) _ (hH.sl (List.mem_cons_of_mem _ hom) hoo) hb5 (by omega) (by omega) hb6) ?_
      rintro _ wn ⟨hC, hN⟩; obtain ⟨b115, cap115, cur115, rfl, hge115, hbb115, ho115⟩ := hN.own; replace hH := hH.push hC hge115 hbb115; clear hC hN
      refine WL.u rfl rfl (Wt.plain rfl) (Ex.assign rfl) ?_
      refine WL.last ?_
      refine WN.normalBlock ?_
      refine WN.next ?_
      refine WC.region ?_
      refine WL.u rfl rfl (Wt.plain rfl) (Ex.move rfl) ?_
      refine WL.u rfl rfl (Wt.plain rfl) (Ex.add rfl rfl (by omega)) ?_
      refine WL.u rfl rfl (Wt.plain rfl) (Ex.assign rfl) ?_
      refine WL.last ?_
      replace hH := hH.f1
      refine WN.round (r + 1, b115, cap115, addL o r ((N.getD i sd0).2.getD r 0), (b115, .cells cur115 3 (0, 0)) :: T) (by exact ⟨rfl, rfl, rfl, rfl, trivial⟩) ?_ ?_
      · exact ⟨hH, hS.mono fun _ h => List.mem_cons_of_mem _ h, ⟨b115, cap115, cur115, rfl, List.mem_cons_self .., ho115⟩, by rw [ho]; rfl, by omega⟩
      · (try dsimp only); omega
    have hc7' := hc7; try simp only [decide_eq_true_eq, decide_eq_false_iff_not, Bool.not_eq_true', Bool.not_eq_false', Bool.not_eq_true, Bool.not_eq_false] at hc7'
    have hre : r = (N.getD i sd0).2.length := by omega
    have hor : o = outI N (i + 1) := by rw [ho, hre]; rfl
    refine WC.exit ?_
    refine WN.exitThen ?_
    refine WN.exitThen ?_
    refine WN.exitHere ?_
    refine WN.normalBlock ?_
    refine WN.next ?_
    refine WC.region ?_
    refine WL.u rfl rfl (Wt.plain rfl) (Ex.move rfl) ?_
    refine WL.u rfl rfl (Wt.plain rfl) (Ex.add rfl rfl (by omega)) ?_
    refine WL.u rfl rfl (Wt.plain rfl) (Ex.assign rfl) ?_
    refine WL.last ?_
    refine WN.round (i + 1, bo, capo, o, T) (by exact ⟨rfl, rfl, rfl, trivial⟩) ?_ ?_
    · exact ⟨hH, hS, hOut, hor, by omega⟩
    · (try dsimp only); omega
  have hc6' := hc6; try simp only [decide_eq_true_eq, decide_eq_false_iff_not, Bool.not_eq_true', Bool.not_eq_false', Bool.not_eq_true, Bool.not_eq_false] at hc6'
  have hie : i = N.length := by omega
  rw [hie, out_done hG hRep] at ho
  refine WC.exit ?_
  refine WN.exitThen ?_
  refine WN.exitThen ?_
  refine WN.exitHere ?_
  refine WN.next ?_
  refine WC.seq ?_
  refine WC.region ?_
  refine WL.u rfl rfl (Wt.plain rfl) (Ex.move rfl) ?_
  refine WL.u rfl rfl (Wt.plain rfl) (Ex.assign rfl) ?_
  refine WL.u rfl rfl (Wt.plain rfl) (Ex.assign rfl) ?_
  refine WL.next ?_
  refine WC.ret ?_
  refine WN.body2 rfl rfl rfl ?_
  have e := countRounds_at hfw
  have hN2 := newT (S := []) hH (fun _ h => List.mem_cons_of_mem _ h) hOut
  rw [ho] at hN2
  exact ⟨_, by rw [e, ho] <;> rfl, hH.keep, by rw [e]; exact hN2⟩

theorem lawExactCountJoined (n m : Int) (w : World) : Fn Try.prog 3 [vint n, vint m] w (fun v w1 => v = .bool true ∧ Keep [] w w1) := by
  refine Fn.enter (n := 68) Try.func3 rfl rfl rfl ?_
  show WC _ _ _ _ [(0, vint n), (1, vint m)] _
  have hH := Hp.start [] w
  have hlen : ((countRounds n m).1).length ≤ 1000 := countRounds_len n m
  refine WC.seq ?_
  refine WC.region ?_
  refine WL.u rfl rfl (Wt.plain rfl) (Ex.assign rfl) ?_
  refine WL.next ?_
  refine WC.seq ?_
  refine WC.region ?_
  refine WL.u rfl rfl (Wt.plain rfl) (Ex.move rfl) ?_
  refine WL.u rfl rfl (Wt.plain rfl) (Ex.move rfl) ?_
  refine WL.call callable5 rfl (Wt.plain rfl) rfl rfl (sCountJoined n m _) ?_
  rintro _ wn ⟨x, rfl, hC, hN⟩; obtain ⟨b16, cap16, cur16, rfl, hge16, hbb16, ho16⟩ := hN.own; replace hH := hH.push hC hge16 hbb16; clear hC hN
  refine WL.u rfl rfl (Wt.plain rfl) (Ex.move rfl) ?_
  refine WL.u rfl rfl (Wt.plain rfl) (Ex.extract rfl rfl) ?_
  refine WL.u rfl rfl (Wt.plain rfl) (Ex.extract rfl rfl) ?_
  refine WL.u rfl rfl (Wt.plain rfl) (Ex.assign rfl) ?_
  refine WL.u rfl rfl (Wt.plain rfl) (Ex.assign rfl) ?_
  refine WL.next ?_
  refine WC.seq ?_
  refine WC.region ?_
  refine WL.u rfl rfl (Wt.plain rfl) (Ex.move rfl) ?_
  refine WL.u rfl rfl (Wt.plain rfl) (Ex.move rfl) ?_
  refine WL.call callable6 rfl (Wt.plain rfl) rfl rfl (iCountJoined n m _) ?_
  rintro _ wn ⟨x, rfl, hC, hN⟩; obtain ⟨b22, cap22, cur22, rfl, hge22, hbb22, ho22⟩ := hN.own; replace hH := hH.push hC hge22 hbb22; clear hC hN
  refine WL.u rfl rfl (Wt.plain rfl) (Ex.move rfl) ?_
  refine WL.u rfl rfl (Wt.plain rfl) (Ex.extract rfl rfl) ?_
  refine WL.u rfl rfl (Wt.plain rfl) (Ex.extract rfl rfl) ?_
  refine WL.u rfl rfl (Wt.plain rfl) (Ex.assign rfl) ?_
  refine WL.u rfl rfl (Wt.plain rfl) (Ex.assign rfl) ?_
  refine WL.next ?_
  refine WC.seq ?_
  refine WC.seq ?_
  refine WC.region ?_
  refine WL.u rfl rfl (Wt.plain rfl) (Ex.move rfl) ?_
  refine WL.u rfl rfl (Wt.plain rfl) (Ex.move rfl) ?_
  refine WL.call callable7 rfl (Wt.plain rfl) rfl rfl (eqIntS ((countRounds n m).1) ((countRounds n m).1) _ _ _ _ _ (ho22.slAt hH 0 rfl) (ho16.slAt hH 1 rfl)) ?_
  rintro _ wn ⟨rfl, hC⟩; replace hH := hH.dr hC; clear hC
  refine WL.u rfl rfl (Wt.plain rfl) (Ex.not rfl) ?_
  refine WL.u rfl rfl (Wt.plain rfl) (Ex.move rfl) ?_
  refine WL.split (t := 29) rfl (fun hg3_4 => ?_) (fun hg3_4 => ?_)
  · exfalso; simp at hg3_4
  have hg3_4' := hg3_4; try simp only [decide_eq_true_eq, decide_eq_false_iff_not, Bool.not_eq_true', Bool.not_eq_false', Bool.not_eq_true, Bool.not_eq_false] at hg3_4'
  refine WL.u rfl rfl (Wt.guard' rfl rfl rfl hg3_4 rfl) (Ex.move rfl) ?_
  refine WL.u rfl rfl (Wt.guard' rfl rfl rfl hg3_4 rfl) (Ex.move rfl) ?_
  refine WL.u rfl rfl (Wt.guard' rfl rfl rfl hg3_4 rfl) (Ex.neqB Try.underlying4 rfl rfl) ?_
  refine WL.u rfl rfl (Wt.plain rfl) (Ex.pickF rfl hg3_4 rfl) ?_
  refine WL.next ?_
  refine WC.condF rfl (by simp) ?_
  refine WC.skip ?_
  refine WN.next ?_
  refine WC.seq ?_
  refine WC.region ?_
  refine WL.u rfl rfl (Wt.plain rfl) (Ex.assign rfl) ?_
  refine WL.next ?_
  refine WC.seq ?_
  refine WC.region ?_
  refine WL.u rfl rfl (Wt.plain rfl) (Ex.move rfl) ?_
  refine WL.u rfl rfl (Wt.plain rfl) (Ex.move rfl) ?_
  refine WL.call callable8 rfl (Wt.plain rfl) rfl rfl (markIntS b22 cap22 cur22 ((countRounds n m).1) 1 _ (hH.at 0 rfl) ho22 (by omega) (by omega)) ?_
  rintro _ wn ⟨cur1, rfl, hK, hb, ho22⟩; replace hH := hH.turn hK hb; clear hK hb
  refine WL.u rfl rfl (Wt.plain rfl) (Ex.assign rfl) ?_
  refine WL.next ?_
  refine WC.seq ?_
  refine WC.region ?_
  refine WL.u rfl rfl (Wt.plain rfl) (Ex.assign rfl) ?_
  refine WL.next ?_
  refine WC.seq ?_
  refine WC.region ?_
  refine WL.u rfl rfl (Wt.plain rfl) (Ex.move rfl) ?_
  refine WL.u rfl rfl (Wt.plain rfl) (Ex.move rfl) ?_
  refine WL.call callable9 rfl (Wt.plain rfl) rfl rfl (heldIntS (some ⟨b22, 0, none⟩) cap22 1 ((countRounds n m).1).length _ (ho22.slAt hH 0 rfl) (by omega) (by omega)) ?_
  rintro _ _ ⟨rfl, hw⟩; obtain rfl := hw.symm
  refine WL.u rfl rfl (Wt.plain rfl) (Ex.assign rfl) ?_
  refine WL.next ?_
  refine WC.seq ?_
  refine WC.seq ?_
  refine WC.region ?_
  refine WL.u rfl rfl (Wt.plain rfl) (Ex.move rfl) ?_
  refine WL.u rfl rfl (Wt.plain rfl) (Ex.lss rfl rfl) ?_
  refine WL.next ?_
  refine WC.condF rfl (decide_eq_false (by omega)) ?_
  refine WC.skip ?_
  refine WN.next ?_
  refine WC.seq ?_
  refine WC.seq ?_
  refine WC.region ?_
  refine WL.u rfl rfl (Wt.plain rfl) (Ex.move rfl) ?_
  refine WL.u rfl rfl (Wt.plain rfl) (Ex.move rfl) ?_
  refine WL.u rfl rfl (Wt.plain rfl) (Ex.neq rfl rfl) ?_
  refine WL.next ?_
  refine WC.condF rfl (by simp) ?_
  refine WC.skip ?_
  refine WN.next ?_
  refine WC.seq ?_
  refine WC.region ?_
  refine WL.u rfl rfl (Wt.plain rfl) (Ex.move rfl) ?_
  refine WL.u rfl rfl (Wt.plain rfl) (Ex.move rfl) ?_
  refine WL.call callable6 rfl (Wt.plain rfl) rfl rfl (iCountJoined n m _) ?_
  rintro _ wn ⟨x, rfl, hC, hN⟩; obtain ⟨b48, cap48, cur48, rfl, hge48, hbb48, ho48⟩ := hN.own; replace hH := hH.push hC hge48 hbb48; clear hC hN
  refine WL.u rfl rfl (Wt.plain rfl) (Ex.move rfl) ?_
  refine WL.u rfl rfl (Wt.plain rfl) (Ex.extract rfl rfl) ?_
  refine WL.u rfl rfl (Wt.plain rfl) (Ex.extract rfl rfl) ?_
  refine WL.u rfl rfl (Wt.plain rfl) (Ex.assign rfl) ?_
  refine WL.u rfl rfl (Wt.plain rfl) (Ex.assign rfl) ?_
  refine WL.next ?_
  refine WC.seq ?_
  refine WC.seq ?_
  refine WC.region ?_
  refine WL.u rfl rfl (Wt.plain rfl) (Ex.move rfl) ?_
  refine WL.u rfl rfl (Wt.plain rfl) (Ex.move rfl) ?_
  refine WL.call callable7 rfl (Wt.plain rfl) rfl rfl (eqIntS ((countRounds n m).1) ((countRounds n m).1) _ _ _ _ _ (ho48.slAt hH 0 rfl) (ho16.slAt hH 2 rfl)) ?_
  rintro _ wn ⟨rfl, hC⟩; replace hH := hH.dr hC; clear hC
  refine WL.u rfl rfl (Wt.plain rfl) (Ex.not rfl) ?_
  refine WL.u rfl rfl (Wt.plain rfl) (Ex.move rfl) ?_
  refine WL.split (t := 55) rfl (fun hg14_4 => ?_) (fun hg14_4 => ?_)
  · exfalso; simp at hg14_4
  have hg14_4' := hg14_4; try simp only [decide_eq_true_eq, decide_eq_false_iff_not, Bool.not_eq_true', Bool.not_eq_false', Bool.not_eq_true, Bool.not_eq_false] at hg14_4'
  refine WL.u rfl rfl (Wt.guard' rfl rfl rfl hg14_4 rfl) (Ex.move rfl) ?_
  refine WL.u rfl rfl (Wt.guard' rfl rfl rfl hg14_4 rfl) (Ex.move rfl) ?_
  refine WL.u rfl rfl (Wt.guard' rfl rfl rfl hg14_4 rfl) (Ex.neqB Try.underlying4 rfl rfl) ?_
  refine WL.u rfl rfl (Wt.plain rfl) (Ex.pickF rfl hg14_4 rfl) ?_
  refine WL.next ?_
  refine WC.condF rfl (by simp) ?_
  refine WC.skip ?_
  refine WN.next ?_
  refine WC.seq ?_
  refine WC.region ?_
  refine WL.u rfl rfl (Wt.plain rfl) (Ex.assign rfl) ?_
  refine WL.next ?_
  refine WC.seq ?_
  refine WC.region ?_
  refine WL.u rfl rfl (Wt.plain rfl) (Ex.move rfl) ?_
  refine WL.u rfl rfl (Wt.plain rfl) (Ex.move rfl) ?_
  refine WL.call callable9 rfl (Wt.plain rfl) rfl rfl (heldIntS (some ⟨b22, 0, none⟩) cap22 1 ((countRounds n m).1).length _ (ho22.slAt hH 1 rfl) (by omega) (by omega)) ?_
  rintro _ _ ⟨rfl, hw⟩; obtain rfl := hw.symm
  refine WL.u rfl rfl (Wt.plain rfl) (Ex.assign rfl) ?_
  refine WL.next ?_
  refine WC.seq ?_
  refine WC.seq ?_
  refine WC.region ?_
  refine WL.u rfl rfl (Wt.plain rfl) (Ex.move rfl) ?_
  refine WL.u rfl rfl (Wt.plain rfl) (Ex.lss rfl rfl) ?_
  refine WL.next ?_
  refine WC.condF rfl (decide_eq_false (by omega)) ?_
  refine WC.skip ?_
  refine WN.next ?_
  refine WC.seq ?_
  refine WC.seq ?_
  refine WC.region ?_
  refine WL.u rfl rfl (Wt.plain rfl) (Ex.move rfl) ?_
  refine WL.u rfl rfl (Wt.plain rfl) (Ex.move rfl) ?_
  refine WL.u rfl rfl (Wt.plain rfl) (Ex.neq rfl rfl) ?_
  refine WL.next ?_
  refine WC.condF rfl (by simp) ?_
  refine WC.skip ?_
  refine WN.next ?_
  refine WC.seq ?_
  refine WC.region ?_
  refine WL.u rfl rfl (Wt.plain rfl) (Ex.assign rfl) ?_
  refine WL.next ?_
  refine WC.ret ?_
  refine WN.body1 rfl rfl ?_
  exact ⟨rfl, hH.keep⟩

theorem lawCountJoined (a : Option Addr) (l : List UInt8) (cap : Nat) (w : World) (hc : Sl rByte w a l) (hcap : l.length ≤ cap) : Fn Try.prog 4 [.slice a l.length cap] w (fun v w1 => v = .bool true ∧ Keep [] w w1) := by
  refine Fn.enter (n := 64) Try.func4 rfl rfl rfl ?_
  show WC _ _ _ _ [(0, .slice a l.length cap)] _
  have hH := Hp.start [] w
  refine WC.seq ?_
  refine WC.region ?_
  refine WL.u rfl rfl (Wt.plain rfl) (Ex.assign rfl) ?_
  refine WL.next ?_
  refine WC.seq ?_
  refine WC.seq ?_
  refine WC.region ?_
  refine WL.u rfl rfl (Wt.plain rfl) (Ex.move rfl) ?_
  refine WL.u rfl rfl (Wt.plain rfl) (Ex.lenSl Try.underlying28 rfl) ?_
  refine WL.u rfl rfl (Wt.plain rfl) (Ex.gtr rfl rfl) ?_
  refine WL.next ?_
  refine WC.cond rfl (fun hc1 => ?_) (fun hc1 => ?_)
  · have hc1' := hc1; try simp only [decide_eq_true_eq, decide_eq_false_iff_not, Bool.not_eq_true', Bool.not_eq_false', Bool.not_eq_true, Bool.not_eq_false] at hc1'
    refine WC.seq ?_
    refine WC.region ?_
    refine WL.u rfl rfl (Wt.plain rfl) (Ex.assign rfl) ?_
    refine WL.next ?_
    refine WC.ret ?_
    refine WN.retThen ?_
    refine WN.body1 rfl rfl ?_
    exact ⟨rfl, hH.keep⟩
  have hc1' := hc1; try simp only [decide_eq_true_eq, decide_eq_false_iff_not, Bool.not_eq_true', Bool.not_eq_false', Bool.not_eq_true, Bool.not_eq_false] at hc1'
  refine WC.skip ?_
  refine WN.next ?_
  refine WC.seq ?_
  refine WC.region ?_
  refine WL.u rfl rfl (Wt.plain rfl) (Ex.move rfl) ?_
  refine WL.call callable10 rfl (Wt.plain rfl) rfl rfl (sDrawCountJoined _ _ _ _ (hc.kept hH.keep) hcap) ?_
  rintro _ wn ⟨n, m, rfl, hC, hn1, hn4, hm1, hm12⟩; replace hH := hH.call hC; clear hC
  refine WL.u rfl rfl (Wt.plain rfl) (Ex.move rfl) ?_
  refine WL.u rfl rfl (Wt.plain rfl) (Ex.extract rfl rfl) ?_
  refine WL.u rfl rfl (Wt.plain rfl) (Ex.extract rfl rfl) ?_
  refine WL.u rfl rfl (Wt.plain rfl) (Ex.assign rfl) ?_
  refine WL.u rfl rfl (Wt.plain rfl) (Ex.assign rfl) ?_
  refine WL.next ?_
  refine WC.seq ?_
  refine WC.region ?_
  refine WL.u rfl rfl (Wt.plain rfl) (Ex.move rfl) ?_
  refine WL.u rfl rfl (Wt.plain rfl) (Ex.move rfl) ?_
  refine WL.call callable6 rfl (Wt.plain rfl) rfl rfl (iCountJoined n m _) ?_
  rintro _ wn ⟨x, rfl, hC, hN⟩; obtain ⟨b22, cap22, cur22, rfl, hge22, hbb22, ho22⟩ := hN.own; replace hH := hH.push hC hge22 hbb22; clear hC hN
  refine WL.u rfl rfl (Wt.plain rfl) (Ex.move rfl) ?_
  refine WL.u rfl rfl (Wt.plain rfl) (Ex.extract rfl rfl) ?_
  refine WL.u rfl rfl (Wt.plain rfl) (Ex.extract rfl rfl) ?_
  refine WL.u rfl rfl (Wt.plain rfl) (Ex.assign rfl) ?_
  refine WL.u rfl rfl (Wt.plain rfl) (Ex.assign rfl) ?_
  refine WL.next ?_
  refine WC.seq ?_
  refine WC.region ?_
  refine WL.u rfl rfl (Wt.plain rfl) (Ex.move rfl) ?_
  refine WL.u rfl rfl (Wt.plain rfl) (Ex.move rfl) ?_
  refine WL.call callable5 rfl (Wt.plain rfl) rfl rfl (sCountJoined n m _) ?_
  rintro _ wn ⟨x, rfl, hC, hN⟩; obtain ⟨b28, cap28, cur28, rfl, hge28, hbb28, ho28⟩ := hN.own; replace hH := hH.push hC hge28 hbb28; clear hC hN
  refine WL.u rfl rfl (Wt.plain rfl) (Ex.move rfl) ?_
  refine WL.u rfl rfl (Wt.plain rfl) (Ex.extract rfl rfl) ?_
  refine WL.u rfl rfl (Wt.plain rfl) (Ex.extract rfl rfl) ?_
  refine WL.u rfl rfl (Wt.plain rfl) (Ex.assign rfl) ?_
  refine WL.u rfl rfl (Wt.plain rfl) (Ex.assign rfl) ?_
  refine WL.next ?_
  refine WC.seq ?_
  refine WC.seq ?_
  refine WC.region ?_
  refine WL.u rfl rfl (Wt.plain rfl) (Ex.move rfl) ?_
  refine WL.u rfl rfl (Wt.plain rfl) (Ex.move rfl) ?_
  refine WL.u rfl rfl (Wt.plain rfl) (Ex.neqB Try.underlying4 rfl rfl) ?_
  refine WL.u rfl rfl (Wt.plain rfl) (Ex.move rfl) ?_
  refine WL.split (t := 34) rfl (fun hg6_3 => ?_) (fun hg6_3 => ?_)
  · exfalso; simp at hg6_3
  have hg6_3' := hg6_3; try simp only [decide_eq_true_eq, decide_eq_false_iff_not, Bool.not_eq_true', Bool.not_eq_false', Bool.not_eq_true, Bool.not_eq_false] at hg6_3'
  refine WL.u rfl rfl (Wt.guard' rfl rfl rfl hg6_3 rfl) (Ex.move rfl) ?_
  refine WL.u rfl rfl (Wt.guard' rfl rfl rfl hg6_3 rfl) (Ex.move rfl) ?_
  refine WL.call callable11 rfl (Wt.guard' rfl rfl rfl hg6_3 rfl) rfl rfl (sameInts (countRounds n m).1 (countRounds n m).1 _ _ _ _ _ (ho22.slAt hH 1 rfl) (ho28.slAt hH 0 rfl)) ?_
  rintro _ wn ⟨rfl, hC⟩; replace hH := hH.dr hC; clear hC
  refine WL.u rfl rfl (Wt.guard' rfl rfl rfl hg6_3 rfl) (Ex.not rfl) ?_
  refine WL.u rfl rfl (Wt.plain rfl) (Ex.pickF rfl hg6_3 rfl) ?_
  refine WL.u rfl rfl (Wt.plain rfl) (Ex.move rfl) ?_
  refine WL.split (t := 40) rfl (fun hg6_9 => ?_) (fun hg6_9 => ?_)
  · exfalso; simp at hg6_9
  have hg6_9' := hg6_9; try simp only [decide_eq_true_eq, decide_eq_false_iff_not, Bool.not_eq_true', Bool.not_eq_false', Bool.not_eq_true, Bool.not_eq_false] at hg6_9'
  refine WL.u rfl rfl (Wt.guard' rfl rfl rfl hg6_9 rfl) (Ex.move rfl) ?_
  refine WL.u rfl rfl (Wt.guard' rfl rfl rfl hg6_9 rfl) (Ex.not rfl) ?_
  refine WL.u rfl rfl (Wt.plain rfl) (Ex.pickF rfl hg6_9 rfl) ?_
  refine WL.next ?_
  refine WC.cond rfl (fun hc2 => ?_) (fun hc2 => ?_)
  · have hc2' := hc2; try simp only [decide_eq_true_eq, decide_eq_false_iff_not, Bool.not_eq_true', Bool.not_eq_false', Bool.not_eq_true, Bool.not_eq_false] at hc2'
    refine WC.seq ?_
    refine WC.region ?_
    refine WL.u rfl rfl (Wt.plain rfl) (Ex.move rfl) ?_
    refine WL.u rfl rfl (Wt.plain rfl) (Ex.move rfl) ?_
    refine WL.u rfl rfl (Wt.plain rfl) (Ex.eqlB Try.underlying4 rfl rfl) ?_
    refine WL.u rfl rfl (Wt.plain rfl) (Ex.move rfl) ?_
    refine WL.split (t := 47) rfl (fun hg7_3 => ?_) (fun hg7_3 => ?_)
    · have hg7_3' := hg7_3; try simp only [decide_eq_true_eq, decide_eq_false_iff_not, Bool.not_eq_true', Bool.not_eq_false', Bool.not_eq_true, Bool.not_eq_false] at hg7_3'
      refine WL.u rfl rfl (Wt.guard' rfl rfl rfl hg7_3 rfl) (Ex.move rfl) ?_
      refine WL.u rfl rfl (Wt.guard' rfl rfl rfl hg7_3 rfl) (Ex.move rfl) ?_
      refine WL.call callable11 rfl (Wt.guard' rfl rfl rfl hg7_3 rfl) rfl rfl (sameInts (countRounds n m).1 (countRounds n m).1 _ _ _ _ _ (ho22.slAt hH 1 rfl) (ho28.slAt hH 0 rfl)) ?_
      rintro _ wn ⟨rfl, hC⟩; replace hH := hH.dr hC; clear hC
      refine WL.u rfl rfl (Wt.plain rfl) (Ex.pickT rfl hg7_3 rfl) ?_
      refine WL.u rfl rfl (Wt.plain rfl) (Ex.assign rfl) ?_
      refine WL.next ?_
      refine WC.ret ?_
      refine WN.retThen ?_
      refine WN.body1 rfl rfl ?_
      exact ⟨congrArg Value.bool (decide_eq_true rfl), hH.keep⟩
    exfalso; simp at hg7_3
  have hc2' := hc2; try simp only [decide_eq_true_eq, decide_eq_false_iff_not, Bool.not_eq_true', Bool.not_eq_false', Bool.not_eq_true, Bool.not_eq_false] at hc2'
  refine WC.skip ?_
  refine WN.next ?_
  refine WC.seq ?_
  refine WC.region ?_
  refine WL.u rfl rfl (Wt.plain rfl) (Ex.move rfl) ?_
  refine WL.u rfl rfl (Wt.plain rfl) (Ex.move rfl) ?_
  refine WL.call callable12 rfl (Wt.plain rfl) rfl rfl (iCountRounds n m _) ?_
  rintro _ wn ⟨x, rfl, hC, hN⟩; obtain ⟨b55, cap55, cur55, rfl, hge55, hbb55, ho55⟩ := hN.own; replace hH := hH.push hC hge55 hbb55; clear hC hN
  refine WL.u rfl rfl (Wt.plain rfl) (Ex.move rfl) ?_
  refine WL.u rfl rfl (Wt.plain rfl) (Ex.extract rfl rfl) ?_
  refine WL.u rfl rfl (Wt.plain rfl) (Ex.extract rfl rfl) ?_
  refine WL.u rfl rfl (Wt.plain rfl) (Ex.assign rfl) ?_
  refine WL.u rfl rfl (Wt.plain rfl) (Ex.assign rfl) ?_
  refine WL.next ?_
  refine WC.seq ?_
  refine WC.region ?_
  refine WL.u rfl rfl (Wt.plain rfl) (Ex.move rfl) ?_
  refine WL.u rfl rfl (Wt.plain rfl) (Ex.move rfl) ?_
  refine WL.u rfl rfl (Wt.guard' rfl rfl rfl (by simpa using hc2) rfl) (Ex.move rfl) ?_
  refine WL.u rfl rfl (Wt.guard' rfl rfl rfl (by simpa using hc2) rfl) (Ex.move rfl) ?_
  refine WL.call callable11 rfl (Wt.guard' rfl rfl rfl (by simpa using hc2) rfl) rfl rfl (sameInts (countRounds n m).1 (countRounds n m).1 _ _ _ _ _ (ho55.slAt hH 0 rfl) (ho22.slAt hH 2 rfl)) ?_
  rintro _ wn ⟨rfl, hC⟩; replace hH := hH.dr hC; clear hC
  refine WL.u rfl rfl (Wt.plain rfl) (Ex.pickT rfl (by simpa using hc2) rfl) ?_
  refine WL.u rfl rfl (Wt.plain rfl) (Ex.assign rfl) ?_
  refine WL.next ?_
  refine WC.ret ?_
  refine WN.body1 rfl rfl ?_
  exact ⟨congrArg Value.bool (decide_eq_true rfl), hH.keep⟩

end Go.Proofs.Ytmlkabddhdkpaaa
