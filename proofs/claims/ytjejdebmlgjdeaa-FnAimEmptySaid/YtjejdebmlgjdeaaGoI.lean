/- The program's search, walked. -/
import Derived.Test.YtjejdebmlgjdeaaGoS2
import Derived.Test.YtjejdebmlgjdeaaGoInv
import Derived.Test.YtjejdebmlgjdeaaMapI
import Derived.Test.YtjejdebmlgjdeaaPlan2
import Derived.Test.YtjejdebmlgjdeaaAimT
namespace Go.Proofs.Ytjejdebmlgjdeaa
set_option maxRecDepth 100000
set_option linter.unusedSimpArgs false
set_option linter.unusedVariables false
open Go Go.RowKit
theorem mt53 : MapTy Try.prog 53 3 4 := ⟨Try.underlying53, Try.underlying3, ty4⟩
theorem Hp.turn2 {S : List Nat} {w0 w w1 : World} {L : List (Nat × Obj)} {b1 b2 : Nat} {o1 o2 o1' o2' : Obj} (h : Hp S w0 w ((b1, o1) :: (b2, o2) :: L)) (k : Keep [b1, b2] w w1) (h1 : w1.heap[b1]? = some o1') (h2 : w1.heap[b2]? = some o2') : Hp S w0 w1 ((b1, o1') :: (b2, o2') :: L) := by
  have n1 := List.nodup_cons.1 (show (b1 :: b2 :: L.map (·.1)).Nodup from h.nodup)
  have n2 := List.nodup_cons.1 n1.2
  have hne : ∀ q ∈ L, q.1 ∉ [b1, b2] := fun q hq e => by
    have hm : q.1 ∈ L.map (·.1) := List.mem_map_of_mem hq
    rcases List.mem_cons.1 e with e | e
    · exact n1.1 (by rw [← e]; exact List.mem_cons_of_mem _ hm)
    · exact n2.1 (by rw [← List.mem_singleton.1 e]; exact hm)
  refine ⟨⟨k.os.trans h.keep.os, k.tape.trans h.keep.tape, k.output.trans h.keep.output, Nat.le_trans h.keep.size k.size, fun i hi hs => ?_⟩, ?_, ?_, h.nodup⟩
  · have hib : i ∉ [b1, b2] := fun e => by
      rcases List.mem_cons.1 e with e | e
      · subst e
        rcases h.own (i, o1) (by simp) with h1 | h1
        · dsimp only at h1; omega
        · exact hs h1
      · have e := List.mem_singleton.1 e
        subst e
        rcases h.own (i, o2) (by simp) with h1 | h1
        · dsimp only at h1; omega
        · exact hs h1
    exact (k.block i (Nat.lt_of_lt_of_le hi h.keep.size) hib).trans (h.keep.block i hi hs)
  · intro p hp
    rcases List.mem_cons.1 hp with rfl | hp
    · exact h1
    · rcases List.mem_cons.1 hp with rfl | hp
      · exact h2
      · exact k.heap (h.mem p (List.mem_cons_of_mem _ (List.mem_cons_of_mem _ hp))) (hne p hp)
  · intro p hp
    rcases List.mem_cons.1 hp with rfl | hp
    · exact h.own (b1, o1) (by simp)
    · rcases List.mem_cons.1 hp with rfl | hp
      · exact h.own (b2, o2) (by simp)
      · exact h.own p (List.mem_cons_of_mem _ (List.mem_cons_of_mem _ hp))
theorem iafterS (g : Grid) (a : Option Addr) (cap : Nat) (s : Nat × Nat) (w : World) (hg : Sl rStr w a g) (hG : GridOk g) (hc : s.1 < nR g * nC g) (hd : s.2 < 4) : Fn Try.prog 93 [.slice a g.length cap, .agg #[vint s.1, vint s.2]] w (fun v w1 => v = .tuple #[.agg #[vint (nx g s).1, vint (nx g s).2], vint (ex g s)] ∧ Keep [] w w1) := iafter g a cap s.1 s.2 w hg hG hc hd
theorem nx_in {h : Grid} {s : Nat × Nat} (hex : ex h s < 0) : afterN h s = .inr (nx h s) := by
  unfold ex at hex
  unfold nx
  cases ha : afterN h s with
  | inl e => rw [ha] at hex; simp only at hex; omega
  | inr s2 => rfl
theorem ex_out {h : Grid} {s : Nat × Nat} (hex : 0 ≤ ex h s) : ∃ e, afterN h s = .inl e ∧ ex h s = (e : Int) := by
  unfold ex at *
  cases ha : afterN h s with
  | inl e => exact ⟨e, rfl, rfl⟩
  | inr s2 => rw [ha] at hex; simp only at hex; omega
/-- the object of the search -/
abbrev aimO (a : Option Addr) (n cap bn capn nn bm q : Nat) (be : Int) : Obj := .cells #[.slice a n cap, vsl bn nn capn, .map (some bm), vint q, vint be] 55 (0, 0)
def GoSt (g : Grid) (a : Option Addr) (cap ba bm q : Nat) (h : Grid) (M : List Nat) (b : Nat) (w : World) : Prop :=
  ∃ bn capn cur es ck, w.heap[ba]? = some (aimO a g.length cap bn capn h.length bm q (bestI b)) ∧ w.heap[bm]? = some (.map es ck) ∧ MapI es M ∧ bn ∉ [ba, bm] ∧ w.heap[bn]? = some (.cells cur 9 (0, 0)) ∧ Own rStr cur capn h
def IHgo (q p f : Nat) (g : Grid) (a : Option Addr) (cap ba bm : Nat) : Prop := ∀ (h : Grid) (M : List Nat) (F : List Bool) (s : Nat × Nat) (c b : Nat) (w : World), Sl rStr w a g → Off [ba, bm] a g → ba ≠ bm → GoSt g a cap ba bm q h M b w → GoInv p f g h M F s c b →
  Fn Try.prog 49 [vptr ba 0, .agg #[vint s.1, vint s.2], vint c] w (fun _ w1 => Keep [ba, bm] w w1 ∧ GoSt g a cap ba bm q h M (goM q f h F s c b) w1)
def IHle (q p f : Nat) (g : Grid) (a : Option Addr) (cap ba bm : Nat) : Prop := ∀ (h : Grid) (M : List Nat) (F : List Bool) (s : Nat × Nat) (c b : Nat) (w : World), Sl rStr w a g → Off [ba, bm] a g → ba ≠ bm → GoSt g a cap ba bm q h M b w → GoInv p (f + 1) g h M F s c b → F.getD s.1 false = true →
  Fn Try.prog 86 [vptr ba 0, .agg #[vint s.1, vint s.2], vint c] w (fun _ w1 => Keep [ba, bm] w w1 ∧ GoSt g a cap ba bm q h M (leaveW (goM q f) q h F s c b) w1)

set_option maxHeartbeats 1000000 in
theorem ileave (g h : Grid) (a : Option Addr) (cap ba bm q p f : Nat) (M : List Nat) (F : List Bool) (s : Nat × Nat) (c b : Nat) (w : World) (ih : IHgo q p f g a cap ba bm) (hg : Sl rStr w a g) (hga : Off [ba, bm] a g) (hne : ba ≠ bm) (hst : GoSt g a cap ba bm q h M b w) (hI : GoInv p (f + 1) g h M F s c b) (hs : F.getD s.1 false = true) : Fn Try.prog 86 [vptr ba 0, .agg #[vint s.1, vint s.2], vint c] w (fun v w1 => Keep [ba, bm] w w1 ∧ GoSt g a cap ba bm q h M (leaveW (goM q f) q h F s c b) w1) := by
  refine Fn.enter (n := 50) Try.func86 rfl rfl rfl ?_
  show WC _ _ _ _ [(0, vptr ba 0), (1, .agg #[vint s.1, vint s.2]), (2, vint c)] _
  obtain ⟨bn, capn, cur, es, ck, hba, hbm, hMvm, hbn, hbnh, hon⟩ := hst
  have hH := Hp.at2 hba hbm hne
  have hok := hI.en.ok hI.hH hI.hp
  have hc25 := hI.c25
  have hbI := bestI_spec hI.b100
  refine WC.seq ?_
  refine WC.region ?_
  refine WL.box rfl rfl rfl (Wt.plain rfl) hH (fun b4 wn hb4 hk4 hH => ?_)
  refine WL.next ?_
  refine WC.seq ?_
  have hQ := hH
  refine WC.ptree (Keep [] _) (.q 0 (.q 1 (.q 2 (.q 3 (.q 4 (.alt 5 9 (.q 6 (.q 7 (.q 8 (.f 9 (.f 10 (.q 11 .nil)))))) (.f 5 (.q 6 (.q 7 (.q 8 (.f 10 (.q 11 .nil)))))))))))) rfl (by kernel_rfl) (Keep.drew _ _) (fun hR => ?_)
  replace hH := hH.drew
  refine WPt.q rfl rfl rfl (Wt.plain rfl) (fun w hC => Ex.move rfl) ?_
  refine WPt.q rfl rfl rfl (Wt.plain rfl) (fun w hC => Ex.nilCheck rfl) ?_
  refine WPt.q rfl rfl rfl (Wt.plain rfl) (fun w hC => Ex.fieldAddr fd55_1 rfl) ?_
  refine WPt.q rfl rfl rfl (Wt.plain rfl) (fun w hC => Ex.loadK flat22 rfl (hQ.at 1 rfl) hC (by simp) rfl) ?_
  refine WPt.q rfl rfl rfl (Wt.plain rfl) (fun w hC => Ex.loadK2 Try.underlying58 ty58 rfl (hQ.at 0 rfl) hC (by simp)) ?_
  refine WPt.alt rfl rfl ?_ ?_
  · refine WL.call callable93 rfl (Wt.plain rfl) rfl rfl (iafterS h _ _ s _ ((hon.sl0 hbnh).keepO hH.keep (.inr (fun p hp => by cases hp; exact hbn))) hI.hH hok.cell hok.d) ?_
    rintro _ wn ⟨rfl, hC⟩; replace hR := hR.trans hC.nil; replace hH := hH.call hC; clear hC
    refine WPt.b hR ?_
    refine WPt.q rfl rfl rfl (Wt.plain rfl) (fun w hC => Ex.move rfl) ?_
    refine WPt.q rfl rfl rfl (Wt.plain rfl) (fun w hC => Ex.extract rfl rfl) ?_
    refine WPt.q rfl rfl rfl (Wt.plain rfl) (fun w hC => Ex.extract rfl rfl) ?_
    refine WPt.f rfl ?_
    have hsR6 := hR.size
    refine WL.alloc ty58 rfl rfl (Wt.plain rfl) hH (fun b6 wn hb6 hk6 hH => ?_)
    replace hR := hR.trans (hk6.nil)
    refine WPt.b hR ?_
    refine WPt.f rfl ?_
    refine WL.store2 ty58 rfl rfl rfl rfl (Wt.plain rfl) hH (fun wn hk hH => ?_)
    replace hR := hR.shrink hk (by intro x hx; rw [List.mem_singleton.1 hx]; omega)
    refine WPt.b hR ?_
    refine WPt.q rfl rfl rfl (Wt.plain rfl) (fun w hC => Ex.assign rfl) ?_
    refine WPt.nil (fun hC => ?_); clear hC
    refine WN.next ?_
    refine WC.block ?_
    refine WC.seq ?_
    refine WC.region ?_
    refine WL.u rfl rfl (Wt.plain rfl) (Ex.move rfl) ?_
    refine WL.u rfl rfl (Wt.plain rfl) (Ex.lss rfl rfl) ?_
    refine WL.u rfl rfl (Wt.plain rfl) (Ex.assign rfl) ?_
    refine WL.next ?_
    refine WC.cond rfl (fun hc1 => ?_) (fun hc1 => ?_)
    · have hc1' := hc1; try simp only [decide_eq_true_eq, decide_eq_false_iff_not, Bool.not_eq_true', Bool.not_eq_false', Bool.not_eq_true, Bool.not_eq_false] at hc1'
      have hex : ex h s < 0 := by omega
      have ha2 : afterN h s = .inr (nx h s) := nx_in hex
      refine WC.region ?_
      refine WL.u rfl rfl (Wt.plain rfl) (Ex.move rfl) ?_
      refine WL.u rfl rfl (Wt.plain rfl) (Ex.loadHp2 Try.underlying58 ty58 rfl hH) ?_
      refine WL.u rfl rfl (Wt.plain rfl) (Ex.move rfl) ?_
      replace hH := hH.f3
      replace hH := hH.f3
      refine WL.call callable49 rfl (Wt.plain rfl) rfl rfl (ih h M F (nx h s) c b _ (hg.keepO hH.keep hga) hga hne ⟨bn, capn, cur, es, ck, hH.at 0 rfl, hH.at 1 rfl, hMvm, hbn, hH.keep.heap hbnh hbn, hon⟩ (hI.next hs ha2)) ?_
      rintro _ wn ⟨hK, bn2, capn2, cur2, es2, ck2, hba2, hbm2, hM2, hbn2, hbnh2, hon2⟩; replace hH := hH.turn2 hK hba2 hbm2
      refine WL.last ?_
      refine WN.normalBlock ?_
      refine WN.body0n rfl ?_
      exact ⟨hH.keep, by rw [leaveW_in ha2]; exact ⟨bn2, capn2, cur2, es2, ck2, hH.at 0 rfl, hH.at 1 rfl, hM2, hbn2, hbnh2, hon2⟩⟩
    have hc1' := hc1; try simp only [decide_eq_true_eq, decide_eq_false_iff_not, Bool.not_eq_true', Bool.not_eq_false', Bool.not_eq_true, Bool.not_eq_false] at hc1'
    have hex : 0 ≤ ex h s := by omega
    refine WC.seq ?_
    obtain ⟨e, ha2, hex2⟩ := ex_out hex
    have hlo := leaveW_out (q := q) (f := f) (F := F) (c := c) (b := b) ha2
    refine WC.region ?_
    refine WL.u rfl rfl (Wt.plain rfl) (Ex.move rfl) ?_
    refine WL.u rfl rfl (Wt.plain rfl) (Ex.move rfl) ?_
    refine WL.u rfl rfl (Wt.plain rfl) (Ex.nilCheck rfl) ?_
    refine WL.u rfl rfl (Wt.plain rfl) (Ex.fieldAddr fd55_3 rfl) ?_
    replace hH := hH.f2
    refine WL.u rfl rfl (Wt.plain rfl) (Ex.loadHp flat3 rfl hH rfl) ?_
    refine WL.u rfl rfl (Wt.plain rfl) (Ex.eql rfl rfl) ?_
    refine WL.u rfl rfl (Wt.plain rfl) (Ex.move rfl) ?_
    refine WL.split (t := 31) rfl (fun hg4_6 => ?_) (fun hg4_6 => ?_)
    · have hg4_6' := hg4_6; try simp only [decide_eq_true_eq, decide_eq_false_iff_not, Bool.not_eq_true', Bool.not_eq_false', Bool.not_eq_true, Bool.not_eq_false] at hg4_6'
      refine WL.u rfl rfl (Wt.guard' rfl rfl rfl hg4_6 rfl) (Ex.move rfl) ?_
      refine WL.u rfl rfl (Wt.guard' rfl rfl rfl hg4_6 rfl) (Ex.nilCheck rfl) ?_
      refine WL.u rfl rfl (Wt.guard' rfl rfl rfl hg4_6 rfl) (Ex.fieldAddr fd55_4 rfl) ?_
      refine WL.u rfl rfl (Wt.guard' rfl rfl rfl hg4_6 rfl) (Ex.loadHp flat3 rfl hH rfl) ?_
      refine WL.u rfl rfl (Wt.guard' rfl rfl rfl hg4_6 rfl) (Ex.lss rfl rfl) ?_
      refine WL.u rfl rfl (Wt.guard' rfl rfl rfl hg4_6 rfl) (Ex.move rfl) ?_
      refine WL.split (t := 37) rfl (fun hg4_12 => ?_) (fun hg4_12 => ?_)
      · have hg4_12' := hg4_12; try simp only [decide_eq_true_eq, decide_eq_false_iff_not, Bool.not_eq_true', Bool.not_eq_false', Bool.not_eq_true, Bool.not_eq_false] at hg4_12'
        refine WL.pass rfl rfl (Wt.guard' rfl rfl rfl hg4_12 rfl) ?_
        refine WL.pass rfl rfl (Wt.guard' rfl rfl rfl hg4_12 rfl) ?_
        refine WL.pass rfl rfl (Wt.guard' rfl rfl rfl hg4_12 rfl) ?_
        refine WL.pass rfl rfl (Wt.guard' rfl rfl rfl hg4_12 rfl) ?_
        refine WL.pass rfl rfl (Wt.guard' rfl rfl rfl hg4_12 rfl) ?_
        refine WL.pass rfl rfl (Wt.guard' rfl rfl rfl hg4_12 rfl) ?_
        refine WL.u rfl rfl (Wt.guard' rfl rfl rfl hg4_6 rfl) (Ex.pickT rfl hg4_12 rfl) ?_
        refine WL.u rfl rfl (Wt.plain rfl) (Ex.pickT rfl hg4_6 rfl) ?_
        refine WL.u rfl rfl (Wt.plain rfl) (Ex.assign rfl) ?_
        refine WL.next ?_
        refine WC.condT rfl rfl ?_
        refine WC.region ?_
        refine WL.u rfl rfl (Wt.plain rfl) (Ex.move rfl) ?_
        refine WL.u rfl rfl (Wt.plain rfl) (Ex.move rfl) ?_
        refine WL.u rfl rfl (Wt.plain rfl) (Ex.nilCheck rfl) ?_
        refine WL.u rfl rfl (Wt.plain rfl) (Ex.fieldAddr fd55_4 rfl) ?_
        refine WL.store1 ty3 rfl rfl rfl (Wt.plain rfl) hH (by first | decide | simp) rfl (fun wn hk hH => ?_)
        refine WL.last ?_
        refine WN.normalBlock ?_
        refine WN.body0n rfl ?_
        refine ⟨hH.keep, ?_⟩
        rw [hlo]
        have e1 : (if b ≤ c then b else if e = q then c else b) = c := by rw [if_neg (show ¬ b ≤ c by omega), if_pos (show e = q by omega)]
        rw [e1]
        have e2 : bestI c = (c : Int) := by unfold bestI; rw [if_neg (by omega)]
        unfold GoSt
        rw [e2]
        exact ⟨bn, capn, cur, es, ck, (hH.at 0 rfl), (hH.at 3 rfl), hMvm, hbn, hH.keep.heap hbnh hbn, hon⟩
      have hg4_12' := hg4_12; try simp only [decide_eq_true_eq, decide_eq_false_iff_not, Bool.not_eq_true', Bool.not_eq_false', Bool.not_eq_true, Bool.not_eq_false] at hg4_12'
      refine WL.u rfl rfl (Wt.guard' rfl rfl rfl hg4_12 rfl) (Ex.move rfl) ?_
      refine WL.u rfl rfl (Wt.guard' rfl rfl rfl hg4_12 rfl) (Ex.move rfl) ?_
      refine WL.u rfl rfl (Wt.guard' rfl rfl rfl hg4_12 rfl) (Ex.nilCheck rfl) ?_
      refine WL.u rfl rfl (Wt.guard' rfl rfl rfl hg4_12 rfl) (Ex.fieldAddr fd55_4 rfl) ?_
      refine WL.u rfl rfl (Wt.guard' rfl rfl rfl hg4_12 rfl) (Ex.loadHp flat3 rfl hH rfl) ?_
      refine WL.u rfl rfl (Wt.guard' rfl rfl rfl hg4_12 rfl) (Ex.lss rfl rfl) ?_
      refine WL.u rfl rfl (Wt.guard' rfl rfl rfl hg4_6 rfl) (Ex.pickF rfl hg4_12 rfl) ?_
      refine WL.u rfl rfl (Wt.plain rfl) (Ex.pickT rfl hg4_6 rfl) ?_
      refine WL.u rfl rfl (Wt.plain rfl) (Ex.assign rfl) ?_
      refine WL.next ?_
      refine WC.cond rfl (fun hc2 => ?_) (fun hc2 => ?_)
      · have hc2' := hc2; try simp only [decide_eq_true_eq, decide_eq_false_iff_not, Bool.not_eq_true', Bool.not_eq_false', Bool.not_eq_true, Bool.not_eq_false] at hc2'
        refine WC.region ?_
        refine WL.u rfl rfl (Wt.plain rfl) (Ex.move rfl) ?_
        refine WL.u rfl rfl (Wt.plain rfl) (Ex.move rfl) ?_
        refine WL.u rfl rfl (Wt.plain rfl) (Ex.nilCheck rfl) ?_
        refine WL.u rfl rfl (Wt.plain rfl) (Ex.fieldAddr fd55_4 rfl) ?_
        refine WL.store1 ty3 rfl rfl rfl (Wt.plain rfl) hH (by first | decide | simp) rfl (fun wn hk hH => ?_)
        refine WL.last ?_
        refine WN.normalBlock ?_
        refine WN.body0n rfl ?_
        refine ⟨hH.keep, ?_⟩
        rw [hlo]
        have e1 : (if b ≤ c then b else if e = q then c else b) = c := by rw [if_neg (show ¬ b ≤ c by omega), if_pos (show e = q by omega)]
        rw [e1]
        have e2 : bestI c = (c : Int) := by unfold bestI; rw [if_neg (by omega)]
        unfold GoSt
        rw [e2]
        exact ⟨bn, capn, cur, es, ck, (hH.at 0 rfl), (hH.at 3 rfl), hMvm, hbn, hH.keep.heap hbnh hbn, hon⟩
      have hc2' := hc2; try simp only [decide_eq_true_eq, decide_eq_false_iff_not, Bool.not_eq_true', Bool.not_eq_false', Bool.not_eq_true, Bool.not_eq_false] at hc2'
      refine WC.skip ?_
      refine WN.normalBlock ?_
      refine WN.body0n rfl ?_
      refine ⟨hH.keep, ?_⟩
      rw [hlo]
      have e1 : (if b ≤ c then b else if e = q then c else b) = b := by
        split
        · rfl
        · split
          · omega
          · rfl
      rw [e1]
      exact ⟨bn, capn, cur, es, ck, (hH.at 0 rfl), (hH.at 3 rfl), hMvm, hbn, hH.keep.heap hbnh hbn, hon⟩
    have hg4_6' := hg4_6; try simp only [decide_eq_true_eq, decide_eq_false_iff_not, Bool.not_eq_true', Bool.not_eq_false', Bool.not_eq_true, Bool.not_eq_false] at hg4_6'
    refine WL.pass rfl rfl (Wt.guard' rfl rfl rfl hg4_6 rfl) ?_
    refine WL.pass rfl rfl (Wt.guard' rfl rfl rfl hg4_6 rfl) ?_
    refine WL.pass rfl rfl (Wt.guard' rfl rfl rfl hg4_6 rfl) ?_
    refine WL.pass rfl rfl (Wt.guard' rfl rfl rfl hg4_6 rfl) ?_
    refine WL.pass rfl rfl (Wt.guard' rfl rfl rfl hg4_6 rfl) ?_
    refine WL.pass rfl rfl (Wt.guard' rfl rfl rfl hg4_6 rfl) ?_
    refine WL.pass rfl rfl (Wt.undef rfl rfl rfl) ?_
    refine WL.pass rfl rfl (Wt.undef rfl rfl rfl) ?_
    refine WL.pass rfl rfl (Wt.undef rfl rfl rfl) ?_
    refine WL.pass rfl rfl (Wt.undef rfl rfl rfl) ?_
    refine WL.pass rfl rfl (Wt.undef rfl rfl rfl) ?_
    refine WL.pass rfl rfl (Wt.undef rfl rfl rfl) ?_
    refine WL.pass rfl rfl (Wt.guard' rfl rfl rfl hg4_6 rfl) ?_
    refine WL.u rfl rfl (Wt.plain rfl) (Ex.pickF rfl hg4_6 rfl) ?_
    refine WL.u rfl rfl (Wt.plain rfl) (Ex.assign rfl) ?_
    refine WL.next ?_
    refine WC.condF rfl rfl ?_
    refine WC.skip ?_
    refine WN.normalBlock ?_
    refine WN.body0n rfl ?_
    refine ⟨hH.keep, ?_⟩
    rw [hlo]
    have e1 : (if b ≤ c then b else if e = q then c else b) = b := by
      split
      · rfl
      · split
        · omega
        · rfl
    rw [e1]
    exact ⟨bn, capn, cur, es, ck, (hH.at 0 rfl), (hH.at 3 rfl), hMvm, hbn, hH.keep.heap hbnh hbn, hon⟩
  have hsR6 := hR.size
  refine WL.alloc ty58 rfl rfl (Wt.plain rfl) hH (fun b6 wn hb6 hk6 hH => ?_)
  replace hR := hR.trans (hk6.nil)
  refine WPt.b hR ?_
  refine WPt.f rfl ?_
  refine WL.call callable93 rfl (Wt.plain rfl) rfl rfl (iafterS h _ _ s _ ((hon.sl0 hbnh).keepO hH.keep (.inr (fun p hp => by cases hp; exact hbn))) hI.hH hok.cell hok.d) ?_
  rintro _ wn ⟨rfl, hC⟩; replace hR := hR.trans hC.nil; replace hH := hH.call hC; clear hC
  refine WPt.b hR ?_
  refine WPt.q rfl rfl rfl (Wt.plain rfl) (fun w hC => Ex.move rfl) ?_
  refine WPt.q rfl rfl rfl (Wt.plain rfl) (fun w hC => Ex.extract rfl rfl) ?_
  refine WPt.q rfl rfl rfl (Wt.plain rfl) (fun w hC => Ex.extract rfl rfl) ?_
  refine WPt.f rfl ?_
  refine WL.store2 ty58 rfl rfl rfl rfl (Wt.plain rfl) hH (fun wn hk hH => ?_)
  replace hR := hR.shrink hk (by intro x hx; rw [List.mem_singleton.1 hx]; omega)
  refine WPt.b hR ?_
  refine WPt.q rfl rfl rfl (Wt.plain rfl) (fun w hC => Ex.assign rfl) ?_
  refine WPt.nil (fun hC => ?_); clear hC
  refine WN.next ?_
  refine WC.block ?_
  refine WC.seq ?_
  refine WC.region ?_
  refine WL.u rfl rfl (Wt.plain rfl) (Ex.move rfl) ?_
  refine WL.u rfl rfl (Wt.plain rfl) (Ex.lss rfl rfl) ?_
  refine WL.u rfl rfl (Wt.plain rfl) (Ex.assign rfl) ?_
  refine WL.next ?_
  refine WC.cond rfl (fun hc1 => ?_) (fun hc1 => ?_)
  · have hc1' := hc1; try simp only [decide_eq_true_eq, decide_eq_false_iff_not, Bool.not_eq_true', Bool.not_eq_false', Bool.not_eq_true, Bool.not_eq_false] at hc1'
    have hex : ex h s < 0 := by omega
    have ha2 : afterN h s = .inr (nx h s) := nx_in hex
    refine WC.region ?_
    refine WL.u rfl rfl (Wt.plain rfl) (Ex.move rfl) ?_
    refine WL.u rfl rfl (Wt.plain rfl) (Ex.loadHp2 Try.underlying58 ty58 rfl hH) ?_
    refine WL.u rfl rfl (Wt.plain rfl) (Ex.move rfl) ?_
    replace hH := hH.f3
    replace hH := hH.f3
    refine WL.call callable49 rfl (Wt.plain rfl) rfl rfl (ih h M F (nx h s) c b _ (hg.keepO hH.keep hga) hga hne ⟨bn, capn, cur, es, ck, hH.at 0 rfl, hH.at 1 rfl, hMvm, hbn, hH.keep.heap hbnh hbn, hon⟩ (hI.next hs ha2)) ?_
    rintro _ wn ⟨hK, bn2, capn2, cur2, es2, ck2, hba2, hbm2, hM2, hbn2, hbnh2, hon2⟩; replace hH := hH.turn2 hK hba2 hbm2
    refine WL.last ?_
    refine WN.normalBlock ?_
    refine WN.body0n rfl ?_
    exact ⟨hH.keep, by rw [leaveW_in ha2]; exact ⟨bn2, capn2, cur2, es2, ck2, hH.at 0 rfl, hH.at 1 rfl, hM2, hbn2, hbnh2, hon2⟩⟩
  have hc1' := hc1; try simp only [decide_eq_true_eq, decide_eq_false_iff_not, Bool.not_eq_true', Bool.not_eq_false', Bool.not_eq_true, Bool.not_eq_false] at hc1'
  have hex : 0 ≤ ex h s := by omega
  refine WC.seq ?_
  obtain ⟨e, ha2, hex2⟩ := ex_out hex
  have hlo := leaveW_out (q := q) (f := f) (F := F) (c := c) (b := b) ha2
  refine WC.region ?_
  refine WL.u rfl rfl (Wt.plain rfl) (Ex.move rfl) ?_
  refine WL.u rfl rfl (Wt.plain rfl) (Ex.move rfl) ?_
  refine WL.u rfl rfl (Wt.plain rfl) (Ex.nilCheck rfl) ?_
  refine WL.u rfl rfl (Wt.plain rfl) (Ex.fieldAddr fd55_3 rfl) ?_
  replace hH := hH.f2
  refine WL.u rfl rfl (Wt.plain rfl) (Ex.loadHp flat3 rfl hH rfl) ?_
  refine WL.u rfl rfl (Wt.plain rfl) (Ex.eql rfl rfl) ?_
  refine WL.u rfl rfl (Wt.plain rfl) (Ex.move rfl) ?_
  refine WL.split (t := 31) rfl (fun hg4_6 => ?_) (fun hg4_6 => ?_)
  · have hg4_6' := hg4_6; try simp only [decide_eq_true_eq, decide_eq_false_iff_not, Bool.not_eq_true', Bool.not_eq_false', Bool.not_eq_true, Bool.not_eq_false] at hg4_6'
    refine WL.u rfl rfl (Wt.guard' rfl rfl rfl hg4_6 rfl) (Ex.move rfl) ?_
    refine WL.u rfl rfl (Wt.guard' rfl rfl rfl hg4_6 rfl) (Ex.nilCheck rfl) ?_
    refine WL.u rfl rfl (Wt.guard' rfl rfl rfl hg4_6 rfl) (Ex.fieldAddr fd55_4 rfl) ?_
    refine WL.u rfl rfl (Wt.guard' rfl rfl rfl hg4_6 rfl) (Ex.loadHp flat3 rfl hH rfl) ?_
    refine WL.u rfl rfl (Wt.guard' rfl rfl rfl hg4_6 rfl) (Ex.lss rfl rfl) ?_
    refine WL.u rfl rfl (Wt.guard' rfl rfl rfl hg4_6 rfl) (Ex.move rfl) ?_
    refine WL.split (t := 37) rfl (fun hg4_12 => ?_) (fun hg4_12 => ?_)
    · have hg4_12' := hg4_12; try simp only [decide_eq_true_eq, decide_eq_false_iff_not, Bool.not_eq_true', Bool.not_eq_false', Bool.not_eq_true, Bool.not_eq_false] at hg4_12'
      refine WL.pass rfl rfl (Wt.guard' rfl rfl rfl hg4_12 rfl) ?_
      refine WL.pass rfl rfl (Wt.guard' rfl rfl rfl hg4_12 rfl) ?_
      refine WL.pass rfl rfl (Wt.guard' rfl rfl rfl hg4_12 rfl) ?_
      refine WL.pass rfl rfl (Wt.guard' rfl rfl rfl hg4_12 rfl) ?_
      refine WL.pass rfl rfl (Wt.guard' rfl rfl rfl hg4_12 rfl) ?_
      refine WL.pass rfl rfl (Wt.guard' rfl rfl rfl hg4_12 rfl) ?_
      refine WL.u rfl rfl (Wt.guard' rfl rfl rfl hg4_6 rfl) (Ex.pickT rfl hg4_12 rfl) ?_
      refine WL.u rfl rfl (Wt.plain rfl) (Ex.pickT rfl hg4_6 rfl) ?_
      refine WL.u rfl rfl (Wt.plain rfl) (Ex.assign rfl) ?_
      refine WL.next ?_
      refine WC.condT rfl rfl ?_
      refine WC.region ?_
      refine WL.u rfl rfl (Wt.plain rfl) (Ex.move rfl) ?_
      refine WL.u rfl rfl (Wt.plain rfl) (Ex.move rfl) ?_
      refine WL.u rfl rfl (Wt.plain rfl) (Ex.nilCheck rfl) ?_
      refine WL.u rfl rfl (Wt.plain rfl) (Ex.fieldAddr fd55_4 rfl) ?_
      refine WL.store1 ty3 rfl rfl rfl (Wt.plain rfl) hH (by first | decide | simp) rfl (fun wn hk hH => ?_)
      refine WL.last ?_
      refine WN.normalBlock ?_
      refine WN.body0n rfl ?_
      refine ⟨hH.keep, ?_⟩
      rw [hlo]
      have e1 : (if b ≤ c then b else if e = q then c else b) = c := by rw [if_neg (show ¬ b ≤ c by omega), if_pos (show e = q by omega)]
      rw [e1]
      have e2 : bestI c = (c : Int) := by unfold bestI; rw [if_neg (by omega)]
      unfold GoSt
      rw [e2]
      exact ⟨bn, capn, cur, es, ck, (hH.at 0 rfl), (hH.at 3 rfl), hMvm, hbn, hH.keep.heap hbnh hbn, hon⟩
    have hg4_12' := hg4_12; try simp only [decide_eq_true_eq, decide_eq_false_iff_not, Bool.not_eq_true', Bool.not_eq_false', Bool.not_eq_true, Bool.not_eq_false] at hg4_12'
    refine WL.u rfl rfl (Wt.guard' rfl rfl rfl hg4_12 rfl) (Ex.move rfl) ?_
    refine WL.u rfl rfl (Wt.guard' rfl rfl rfl hg4_12 rfl) (Ex.move rfl) ?_
    refine WL.u rfl rfl (Wt.guard' rfl rfl rfl hg4_12 rfl) (Ex.nilCheck rfl) ?_
    refine WL.u rfl rfl (Wt.guard' rfl rfl rfl hg4_12 rfl) (Ex.fieldAddr fd55_4 rfl) ?_
    refine WL.u rfl rfl (Wt.guard' rfl rfl rfl hg4_12 rfl) (Ex.loadHp flat3 rfl hH rfl) ?_
    refine WL.u rfl rfl (Wt.guard' rfl rfl rfl hg4_12 rfl) (Ex.lss rfl rfl) ?_
    refine WL.u rfl rfl (Wt.guard' rfl rfl rfl hg4_6 rfl) (Ex.pickF rfl hg4_12 rfl) ?_
    refine WL.u rfl rfl (Wt.plain rfl) (Ex.pickT rfl hg4_6 rfl) ?_
    refine WL.u rfl rfl (Wt.plain rfl) (Ex.assign rfl) ?_
    refine WL.next ?_
    refine WC.cond rfl (fun hc2 => ?_) (fun hc2 => ?_)
    · have hc2' := hc2; try simp only [decide_eq_true_eq, decide_eq_false_iff_not, Bool.not_eq_true', Bool.not_eq_false', Bool.not_eq_true, Bool.not_eq_false] at hc2'
      refine WC.region ?_
      refine WL.u rfl rfl (Wt.plain rfl) (Ex.move rfl) ?_
      refine WL.u rfl rfl (Wt.plain rfl) (Ex.move rfl) ?_
      refine WL.u rfl rfl (Wt.plain rfl) (Ex.nilCheck rfl) ?_
      refine WL.u rfl rfl (Wt.plain rfl) (Ex.fieldAddr fd55_4 rfl) ?_
      refine WL.store1 ty3 rfl rfl rfl (Wt.plain rfl) hH (by first | decide | simp) rfl (fun wn hk hH => ?_)
      refine WL.last ?_
      refine WN.normalBlock ?_
      refine WN.body0n rfl ?_
      refine ⟨hH.keep, ?_⟩
      rw [hlo]
      have e1 : (if b ≤ c then b else if e = q then c else b) = c := by rw [if_neg (show ¬ b ≤ c by omega), if_pos (show e = q by omega)]
      rw [e1]
      have e2 : bestI c = (c : Int) := by unfold bestI; rw [if_neg (by omega)]
      unfold GoSt
      rw [e2]
      exact ⟨bn, capn, cur, es, ck, (hH.at 0 rfl), (hH.at 3 rfl), hMvm, hbn, hH.keep.heap hbnh hbn, hon⟩
    have hc2' := hc2; try simp only [decide_eq_true_eq, decide_eq_false_iff_not, Bool.not_eq_true', Bool.not_eq_false', Bool.not_eq_true, Bool.not_eq_false] at hc2'
    refine WC.skip ?_
    refine WN.normalBlock ?_
    refine WN.body0n rfl ?_
    refine ⟨hH.keep, ?_⟩
    rw [hlo]
    have e1 : (if b ≤ c then b else if e = q then c else b) = b := by
      split
      · rfl
      · split
        · omega
        · rfl
    rw [e1]
    exact ⟨bn, capn, cur, es, ck, (hH.at 0 rfl), (hH.at 3 rfl), hMvm, hbn, hH.keep.heap hbnh hbn, hon⟩
  have hg4_6' := hg4_6; try simp only [decide_eq_true_eq, decide_eq_false_iff_not, Bool.not_eq_true', Bool.not_eq_false', Bool.not_eq_true, Bool.not_eq_false] at hg4_6'
  refine WL.pass rfl rfl (Wt.guard' rfl rfl rfl hg4_6 rfl) ?_
  refine WL.pass rfl rfl (Wt.guard' rfl rfl rfl hg4_6 rfl) ?_
  refine WL.pass rfl rfl (Wt.guard' rfl rfl rfl hg4_6 rfl) ?_
  refine WL.pass rfl rfl (Wt.guard' rfl rfl rfl hg4_6 rfl) ?_
  refine WL.pass rfl rfl (Wt.guard' rfl rfl rfl hg4_6 rfl) ?_
  refine WL.pass rfl rfl (Wt.guard' rfl rfl rfl hg4_6 rfl) ?_
  refine WL.pass rfl rfl (Wt.undef rfl rfl rfl) ?_
  refine WL.pass rfl rfl (Wt.undef rfl rfl rfl) ?_
  refine WL.pass rfl rfl (Wt.undef rfl rfl rfl) ?_
  refine WL.pass rfl rfl (Wt.undef rfl rfl rfl) ?_
  refine WL.pass rfl rfl (Wt.undef rfl rfl rfl) ?_
  refine WL.pass rfl rfl (Wt.undef rfl rfl rfl) ?_
  refine WL.pass rfl rfl (Wt.guard' rfl rfl rfl hg4_6 rfl) ?_
  refine WL.u rfl rfl (Wt.plain rfl) (Ex.pickF rfl hg4_6 rfl) ?_
  refine WL.u rfl rfl (Wt.plain rfl) (Ex.assign rfl) ?_
  refine WL.next ?_
  refine WC.condF rfl rfl ?_
  refine WC.skip ?_
  refine WN.normalBlock ?_
  refine WN.body0n rfl ?_
  refine ⟨hH.keep, ?_⟩
  rw [hlo]
  have e1 : (if b ≤ c then b else if e = q then c else b) = b := by
    split
    · rfl
    · split
      · omega
      · rfl
  rw [e1]
  exact ⟨bn, capn, cur, es, ck, (hH.at 0 rfl), (hH.at 3 rfl), hMvm, hbn, hH.keep.heap hbnh hbn, hon⟩

end Go.Proofs.Ytjejdebmlgjdeaa
