/- A text out of a list; the draw of a grid, a port and a text. -/
import Derived.Test.YtlkdobnfoimieaaLawPB2
namespace Go.Proofs.Ytlkdobnfoimieaa
set_option linter.unusedSimpArgs false
set_option linter.unusedVariables false
open Go Go.RowKit

theorem Own.strs (L : List Str) (h : L.length ≤ 1000) : Own rStr (L.map rStr.val).toArray L.length L := by
  refine ⟨by simp [show rStr.sz = 1 from rfl], Nat.le_refl _, by omega, ?_⟩
  unfold Rw
  rw [flat_one rfl, show rStr.sz = 1 from rfl, Nat.mul_one]
  exact List.take_of_length_le (by simp)
theorem proofBeam_len (g : Grid) (port : Int) : (proofBeam g port).1.length ≤ 1005 := by
  by_cases h : (proofBeam g port).2 = true
  · have := proof_beam_all h
    omega
  · have hpi : portIn g port = false := by rw [← proofBeam_ok]; simpa using h
    rw [proofBeam, hpi]; simp

theorem sof (r : Nat) (a : Option Addr) (l : List UInt8) (cap p : Nat) (la : Option Addr) (L : List Str) (lcap : Nat) (w : World) (hr : w.heap[r]? = some (rdo a l.length cap p)) (hc : Sl rByte w a l) (hca : Off [r] a l) (hl : l.length ≤ 2000) (hp : p ≤ 900000) (hg : Sl rStr w la L) (hga : Off [r] la L) (hL : 1 ≤ L.length ∧ L.length ≤ 1000) : Fn Try.prog 29 [vptr r 0, .slice la L.length lcap] w (fun v w1 => ∃ s, s ∈ L ∧ v = vstr s ∧ Keep [r] w w1 ∧ w1.heap[r]? = some (rdo a l.length cap (p + 1))) := by
  refine Fn.enter (n := 12) Try.func29 rfl rfl rfl ?_
  show WC _ _ _ _ [(0, vptr r 0), (1, .slice la L.length lcap)] _
  have hH := Hp.at1 hr
  obtain ⟨b, off, rfl⟩ := hg.addr (by omega)
  refine WC.seq ?_
  refine WC.region ?_
  refine WL.u rfl rfl (Wt.plain rfl) (Ex.assign rfl) ?_
  refine WL.next ?_
  refine WC.seq ?_
  have hk0 : ∀ k : Nat, k < max L.length 1 → L[k]? = some (L.getD k []) := fun k hk => getD_get L k [] (by omega)
  refine WC.region ?_
  refine WL.u rfl rfl (Wt.plain rfl) (Ex.move rfl) ?_
  refine WL.u rfl rfl (Wt.plain rfl) (Ex.move rfl) ?_
  refine WL.u rfl rfl (Wt.plain rfl) (Ex.move rfl) ?_
  refine WL.u rfl rfl (Wt.plain rfl) (Ex.lenSl Try.underlying22 rfl) ?_
  refine WL.call callable28 rfl (Wt.plain rfl) rfl rfl (spick _ _ _ _ _ L.length _ (hH.at 0 rfl) (hc.keepO hH.keep hca) hca hl (by omega) (by omega)) ?_
  rintro _ wn ⟨k, rfl, hk, hKK, ho⟩; replace hH := hH.turn hKK ho; clear hKK ho
  refine WL.u rfl rfl (Wt.plain rfl) (Ex.indexAddr Try.underlying22 ty9 rfl rfl (by omega)) ?_
  refine WL.u rfl rfl (Wt.plain rfl) (Ex.loadSl flat9 (hg.keepO hH.keep hga) rfl rfl (hk0 k hk)) ?_
  refine WL.u rfl rfl (Wt.plain rfl) (Ex.assign rfl) ?_
  refine WL.next ?_
  refine WC.ret ?_
  refine WN.body1 rfl rfl ?_
  exact ⟨_, List.mem_of_getElem? (hk0 k hk), rfl, hH.keep, hH.at 0 rfl⟩

theorem sDrawProofBeamIs (a : Option Addr) (l : List UInt8) (cap : Nat) (w : World) (hc : Sl rByte w a l) (hcap : l.length ≤ cap) : Fn Try.prog 18 [.slice a l.length cap] w (fun v w1 => ∃ (g : Grid) (port : Int) (x : Value) (t : Str), v = .tuple #[x, vint port, vstr t] ∧ Keep [] w w1 ∧ New rStr 9 w w1 x g ∧ (1 ≤ g.length ∧ g.length ≤ 4) ∧ (∀ s ∈ g, s.length ≤ 5)) := by
  refine Fn.enter (n := 53) Try.func18 rfl rfl rfl ?_
  show WC _ _ _ _ [(0, .slice a l.length cap)] _
  have hc0 := hc
  have hH := Hp.start [] w
  replace hc := hc.take 2000
  have hl := List.length_take_le 2000 l
  refine WC.seq ?_
  refine WC.region ?_
  refine WL.u rfl rfl (Wt.plain rfl) (Ex.assign rfl) ?_
  refine WL.u rfl rfl (Wt.plain rfl) (Ex.assign rfl) ?_
  refine WL.u rfl rfl (Wt.plain rfl) (Ex.assign rfl) ?_
  refine WL.next ?_
  refine WC.seq ?_
  refine WC.region ?_
  refine WL.u rfl rfl (Wt.plain rfl) (Ex.move rfl) ?_
  refine WL.call callable25 rfl (Wt.plain rfl) rfl rfl (sl91Port _ _ _ _ (hc0.kept hH.keep) hcap) ?_
  rintro _ wn ⟨g, port, x, rfl, hC, hN, hgl, hgr, hpt⟩; obtain ⟨b12, cap12, cur12, rfl, hge12, hbb12, ho12⟩ := hN.own; replace hH := hH.push hC hge12 hbb12; clear hC hN; have hs := short_of hgr (by omega)
  refine WL.u rfl rfl (Wt.plain rfl) (Ex.move rfl) ?_
  refine WL.u rfl rfl (Wt.plain rfl) (Ex.extract rfl rfl) ?_
  refine WL.u rfl rfl (Wt.plain rfl) (Ex.extract rfl rfl) ?_
  refine WL.u rfl rfl (Wt.plain rfl) (Ex.assign rfl) ?_
  refine WL.u rfl rfl (Wt.plain rfl) (Ex.assign rfl) ?_
  refine WL.next ?_
  refine WC.seq ?_
  refine WC.region ?_
  refine WL.u rfl rfl (Wt.plain rfl) (Ex.move rfl) ?_
  refine WL.u rfl rfl (Wt.plain rfl) (Ex.move rfl) ?_
  refine WL.call callable9 rfl (Wt.plain rfl) rfl rfl (sProofBeam g _ _ port _ (ho12.slAt hH 0 rfl) hs) ?_
  rintro _ wn ⟨rfl, hC⟩; replace hH := hH.call hC; clear hC
  refine WL.u rfl rfl (Wt.plain rfl) (Ex.move rfl) ?_
  refine WL.u rfl rfl (Wt.plain rfl) (Ex.extract rfl rfl) ?_
  refine WL.u rfl rfl (Wt.plain rfl) (Ex.extract rfl rfl) ?_
  refine WL.u rfl rfl (Wt.plain rfl) (Ex.assign rfl) ?_
  refine WL.u rfl rfl (Wt.plain rfl) (Ex.assign rfl) ?_
  refine WL.next ?_
  refine WC.seq ?_
  refine WC.region ?_
  refine WL.u rfl rfl (Wt.plain rfl) (Ex.move rfl) ?_
  refine WL.call callable27 rfl (Wt.plain rfl) rfl rfl (sl6Open _ _ _ _ hcap) ?_
  rintro _ wn ⟨r, rfl, hrn, hC, hro⟩; have hca := (hc.kept hH.keep).offNew hrn; replace hH := hH.push hC hrn hro; clear hC hro
  refine WL.u rfl rfl (Wt.plain rfl) (Ex.assign rfl) ?_
  refine WL.next ?_
  refine WC.seq ?_
  refine WC.region ?_
  refine WL.u rfl rfl (Wt.plain rfl) (Ex.move rfl) ?_
  refine WL.u rfl rfl (Wt.plain rfl) (Ex.nilCheck rfl) ?_
  refine WL.u rfl rfl (Wt.plain rfl) (Ex.fieldAddr fd52_1 rfl) ?_
  refine WL.store1 ty3 rfl rfl rfl (Wt.plain rfl) hH (by simp) rfl (fun wn hk hH => ?_)
  replace hH := hH.at61
  refine WL.next ?_
  refine WC.seq ?_
  refine WC.block ?_
  refine WC.seq ?_
  refine WC.region ?_
  refine WL.u rfl rfl (Wt.plain rfl) (Ex.move rfl) ?_
  refine WL.u rfl rfl (Wt.plain rfl) (Ex.not rfl) ?_
  refine WL.u rfl rfl (Wt.plain rfl) (Ex.move rfl) ?_
  refine WL.split (t := 29) rfl (fun hg5_2 => ?_) (fun hg5_2 => ?_)
  · have hg5_2' := hg5_2; try simp only [decide_eq_true_eq, decide_eq_false_iff_not, Bool.not_eq_true', Bool.not_eq_false', Bool.not_eq_true, Bool.not_eq_false] at hg5_2'
    refine WL.pass rfl rfl (Wt.guard' rfl rfl rfl hg5_2 rfl) ?_
    refine WL.pass rfl rfl (Wt.guard' rfl rfl rfl hg5_2 rfl) ?_
    refine WL.pass rfl rfl (Wt.guard' rfl rfl rfl hg5_2 rfl) ?_
    refine WL.u rfl rfl (Wt.plain rfl) (Ex.pickT rfl hg5_2 rfl) ?_
    refine WL.u rfl rfl (Wt.plain rfl) (Ex.assign rfl) ?_
    refine WL.next ?_
    refine WC.condT rfl rfl ?_
    refine WC.seq ?_
    refine WC.region ?_
    refine WL.u rfl rfl (Wt.plain rfl) (Ex.move rfl) ?_
    refine WL.u rfl rfl (Wt.plain rfl) (Ex.move rfl) ?_
    refine WL.u rfl rfl (Wt.plain rfl) (Ex.move rfl) ?_
    refine WL.lit Try.underlying22 ty9 rfl rfl rfl rfl rfl rfl rfl (Wt.plain rfl) hH (fun b37 wn hb37 hk37 hH => ?_)
    have ho37 := Own.strs ([[98, 101, 97, 109, 32, 100], [98, 101, 97, 109], [98, 101, 97, 109, 32], [98, 101, 97, 109, 32, 108], [98, 101, 97, 109, 32, 117], [], [120]] : List Str) (by decide)
    replace hH := hH.f1
    refine WL.call callable29 rfl (Wt.plain rfl) rfl rfl (sof _ _ _ _ _ _ ([[98, 101, 97, 109, 32, 100], [98, 101, 97, 109], [98, 101, 97, 109, 32], [98, 101, 97, 109, 32, 108], [98, 101, 97, 109, 32, 117], [], [120]] : List Str) _ _ (hH.at 0 rfl) (hc.kept hH.keep) hca hl (by omega) (ho37.slAt hH 1 rfl) (.inr fun p hp => by cases hp; exact hH.nin 1 0 rfl rfl rfl) (by decide)) ?_
    rintro _ wn ⟨t38, ht38, rfl, hKK, ho⟩; replace hH := hH.turn hKK ho; clear hKK ho
    refine WL.u rfl rfl (Wt.plain rfl) (Ex.assign rfl) ?_
    refine WL.u rfl rfl (Wt.plain rfl) (Ex.assign rfl) ?_
    refine WL.u rfl rfl (Wt.plain rfl) (Ex.assign rfl) ?_
    refine WL.next ?_
    refine WC.ret ?_
    refine WN.retBlock ?_
    refine WN.retThen ?_
    refine WN.body3 rfl rfl rfl rfl ?_
    exact ⟨g, port, _, _, rfl, hH.keep, New.of (hH.front 2 rfl) ho12 (hH.base 2 rfl), hgl, hgr⟩
  have hg5_2' := hg5_2; try simp only [decide_eq_true_eq, decide_eq_false_iff_not, Bool.not_eq_true', Bool.not_eq_false', Bool.not_eq_true, Bool.not_eq_false] at hg5_2'
  refine WL.u rfl rfl (Wt.guard' rfl rfl rfl hg5_2 rfl) (Ex.move rfl) ?_
  refine WL.call callable28 rfl (Wt.guard' rfl rfl rfl hg5_2 rfl) rfl rfl (spick _ _ _ _ _ 5 _ (hH.at 0 rfl) (hc.kept hH.keep) hca hl (by omega) (by omega)) ?_
  rintro _ wn ⟨k31, rfl, hk31, hKK, ho⟩; replace hH := hH.turn hKK ho; clear hKK ho
  refine WL.u rfl rfl (Wt.guard' rfl rfl rfl hg5_2 rfl) (Ex.eql rfl rfl) ?_
  refine WL.u rfl rfl (Wt.plain rfl) (Ex.pickF rfl hg5_2 rfl) ?_
  refine WL.u rfl rfl (Wt.plain rfl) (Ex.assign rfl) ?_
  refine WL.next ?_
  refine WC.cond rfl (fun hc1 => ?_) (fun hc1 => ?_)
  · have hc1' := hc1; try simp only [decide_eq_true_eq, decide_eq_false_iff_not, Bool.not_eq_true', Bool.not_eq_false', Bool.not_eq_true, Bool.not_eq_false] at hc1'
    refine WC.seq ?_
    refine WC.region ?_
    refine WL.u rfl rfl (Wt.plain rfl) (Ex.move rfl) ?_
    refine WL.u rfl rfl (Wt.plain rfl) (Ex.move rfl) ?_
    refine WL.u rfl rfl (Wt.plain rfl) (Ex.move rfl) ?_
    refine WL.lit Try.underlying22 ty9 rfl rfl rfl rfl rfl rfl rfl (Wt.plain rfl) hH (fun b37 wn hb37 hk37 hH => ?_)
    have ho37 := Own.strs ([[98, 101, 97, 109, 32, 100], [98, 101, 97, 109], [98, 101, 97, 109, 32], [98, 101, 97, 109, 32, 108], [98, 101, 97, 109, 32, 117], [], [120]] : List Str) (by decide)
    replace hH := hH.f1
    refine WL.call callable29 rfl (Wt.plain rfl) rfl rfl (sof _ _ _ _ _ _ ([[98, 101, 97, 109, 32, 100], [98, 101, 97, 109], [98, 101, 97, 109, 32], [98, 101, 97, 109, 32, 108], [98, 101, 97, 109, 32, 117], [], [120]] : List Str) _ _ (hH.at 0 rfl) (hc.kept hH.keep) hca hl (by omega) (ho37.slAt hH 1 rfl) (.inr fun p hp => by cases hp; exact hH.nin 1 0 rfl rfl rfl) (by decide)) ?_
    rintro _ wn ⟨t38, ht38, rfl, hKK, ho⟩; replace hH := hH.turn hKK ho; clear hKK ho
    refine WL.u rfl rfl (Wt.plain rfl) (Ex.assign rfl) ?_
    refine WL.u rfl rfl (Wt.plain rfl) (Ex.assign rfl) ?_
    refine WL.u rfl rfl (Wt.plain rfl) (Ex.assign rfl) ?_
    refine WL.next ?_
    refine WC.ret ?_
    refine WN.retBlock ?_
    refine WN.retThen ?_
    refine WN.body3 rfl rfl rfl rfl ?_
    exact ⟨g, port, _, _, rfl, hH.keep, New.of (hH.front 2 rfl) ho12 (hH.base 2 rfl), hgl, hgr⟩
  have hc1' := hc1; try simp only [decide_eq_true_eq, decide_eq_false_iff_not, Bool.not_eq_true', Bool.not_eq_false', Bool.not_eq_true, Bool.not_eq_false] at hc1'
  refine WC.seq ?_
  refine WC.region ?_
  refine WL.u rfl rfl (Wt.plain rfl) (Ex.move rfl) ?_
  refine WL.call callable28 rfl (Wt.plain rfl) rfl rfl (spick _ _ _ _ _ 6 _ (hH.at 0 rfl) (hc.kept hH.keep) hca hl (by omega) (by omega)) ?_
  rintro _ wn ⟨k41, rfl, hk41, hKK, ho⟩; replace hH := hH.turn hKK ho; clear hKK ho
  refine WL.u rfl rfl (Wt.plain rfl) (Ex.eql rfl rfl) ?_
  refine WL.u rfl rfl (Wt.plain rfl) (Ex.assign rfl) ?_
  refine WL.next ?_
  refine WC.cond rfl (fun hc2 => ?_) (fun hc2 => ?_)
  · have hc2' := hc2; try simp only [decide_eq_true_eq, decide_eq_false_iff_not, Bool.not_eq_true', Bool.not_eq_false', Bool.not_eq_true, Bool.not_eq_false] at hc2'
    refine WC.seq ?_
    have hpl := proofBeam_len g port
    have hL2 : ∀ s ∈ ([[32], [100], [120]] : List Str), s.length ≤ 1 := by decide
    refine WC.region ?_
    refine WL.u rfl rfl (Wt.plain rfl) (Ex.move rfl) ?_
    refine WL.u rfl rfl (Wt.plain rfl) (Ex.move rfl) ?_
    refine WL.u rfl rfl (Wt.plain rfl) (Ex.move rfl) ?_
    refine WL.u rfl rfl (Wt.plain rfl) (Ex.move rfl) ?_
    refine WL.lit Try.underlying22 ty9 rfl rfl rfl rfl rfl rfl rfl (Wt.plain rfl) hH (fun b47 wn hb47 hk47 hH => ?_)
    have ho47 := Own.strs ([[32], [100], [120]] : List Str) (by decide)
    replace hH := hH.f1
    refine WL.call callable29 rfl (Wt.plain rfl) rfl rfl (sof _ _ _ _ _ _ ([[32], [100], [120]] : List Str) _ _ (hH.at 0 rfl) (hc.kept hH.keep) hca hl (by omega) (ho47.slAt hH 1 rfl) (.inr fun p hp => by cases hp; exact hH.nin 1 0 rfl rfl rfl) (by decide)) ?_
    rintro _ wn ⟨t48, ht48, rfl, hKK, ho⟩; replace hH := hH.turn hKK ho; clear hKK ho
    refine WL.u rfl rfl (Wt.plain rfl) (Ex.concat rfl rfl (by have := hL2 _ ht48; omega)) ?_
    refine WL.u rfl rfl (Wt.plain rfl) (Ex.assign rfl) ?_
    refine WL.u rfl rfl (Wt.plain rfl) (Ex.assign rfl) ?_
    refine WL.u rfl rfl (Wt.plain rfl) (Ex.assign rfl) ?_
    refine WL.next ?_
    refine WC.ret ?_
    refine WN.retBlock ?_
    refine WN.retThen ?_
    refine WN.body3 rfl rfl rfl rfl ?_
    exact ⟨g, port, _, _, rfl, hH.keep, New.of (hH.front 2 rfl) ho12 (hH.base 2 rfl), hgl, hgr⟩
  have hc2' := hc2; try simp only [decide_eq_true_eq, decide_eq_false_iff_not, Bool.not_eq_true', Bool.not_eq_false', Bool.not_eq_true, Bool.not_eq_false] at hc2'
  refine WC.skip ?_
  refine WN.normalBlock ?_
  refine WN.next ?_
  refine WC.seq ?_
  refine WC.region ?_
  refine WL.u rfl rfl (Wt.plain rfl) (Ex.move rfl) ?_
  refine WL.u rfl rfl (Wt.plain rfl) (Ex.move rfl) ?_
  refine WL.u rfl rfl (Wt.plain rfl) (Ex.move rfl) ?_
  refine WL.u rfl rfl (Wt.plain rfl) (Ex.assign rfl) ?_
  refine WL.u rfl rfl (Wt.plain rfl) (Ex.assign rfl) ?_
  refine WL.u rfl rfl (Wt.plain rfl) (Ex.assign rfl) ?_
  refine WL.next ?_
  refine WC.ret ?_
  refine WN.body3 rfl rfl rfl rfl ?_
  exact ⟨g, port, _, _, rfl, hH.keep, New.of (hH.front 1 rfl) ho12 (hH.base 1 rfl), hgl, hgr⟩


theorem beamIs_end {g : Grid} {port : Int} {t : Str} (h : (proofBeamIs g port t).2 = true) : proofBeamIs g port t = beamEnd g port := by
  unfold proofBeamIs at h ⊢
  split
  · rfl
  · next hn => rw [if_neg hn] at h; cases h

theorem lawBeamIs (a : Option Addr) (l : List UInt8) (cap : Nat) (w : World) (hc : Sl rByte w a l) (hcap : l.length ≤ cap) : Fn Try.prog 7 [.slice a l.length cap] w (fun v w1 => v = .bool true ∧ Keep [] w w1) := by
  refine Fn.enter (n := 67) Try.func7 rfl rfl rfl ?_
  show WC _ _ _ _ [(0, .slice a l.length cap)] _
  have hH := Hp.start [] w
  refine WC.seq ?_
  refine WC.region ?_
  refine WL.u rfl rfl (Wt.plain rfl) (Ex.assign rfl) ?_
  refine WL.next ?_
  refine WC.seq ?_
  refine WC.seq ?_
  refine WC.region ?_
  refine WL.u rfl rfl (Wt.plain rfl) (Ex.move rfl) ?_
  refine WL.u rfl rfl (Wt.plain rfl) (Ex.lenSl Try.underlying32 rfl) ?_
  refine WL.u rfl rfl (Wt.plain rfl) (Ex.gtr rfl rfl) ?_
  refine WL.next ?_
  refine WC.cond rfl (fun hc1 => ?_) (fun hc1 => ?_)
  · have hc1' := hc1; try simp only [decide_eq_true_eq, decide_eq_false_iff_not, Bool.not_eq_true', Bool.not_eq_false', Bool.not_eq_true, Bool.not_eq_false] at hc1'
    refine WC.seq ?_
    refine WC.region ?_
    refine WL.u rfl rfl (Wt.plain rfl) (Ex.assign rfl) ?_
    refine WL.next ?_
    refine WC.ret ?_
    refine WN.retThen ?_
    refine WN.body1 rfl rfl ?_
    exact ⟨rfl, hH.keep⟩
  have hc1' := hc1; try simp only [decide_eq_true_eq, decide_eq_false_iff_not, Bool.not_eq_true', Bool.not_eq_false', Bool.not_eq_true, Bool.not_eq_false] at hc1'
  refine WC.skip ?_
  refine WN.next ?_
  refine WC.seq ?_
  refine WC.region ?_
  refine WL.u rfl rfl (Wt.plain rfl) (Ex.move rfl) ?_
  refine WL.call callable18 rfl (Wt.plain rfl) rfl rfl (sDrawProofBeamIs _ _ _ _ (hc.kept hH.keep) hcap) ?_
  rintro _ wn ⟨g, port, x, t, rfl, hC, hN, hgl, hgr⟩; obtain ⟨b17, cap17, cur17, rfl, hge17, hbb17, ho17⟩ := hN.own; replace hH := hH.push hC hge17 hbb17; clear hC hN; have hs := short_of hgr (by omega)
  refine WL.u rfl rfl (Wt.plain rfl) (Ex.move rfl) ?_
  refine WL.u rfl rfl (Wt.plain rfl) (Ex.extract rfl rfl) ?_
  refine WL.u rfl rfl (Wt.plain rfl) (Ex.extract rfl rfl) ?_
  refine WL.u rfl rfl (Wt.plain rfl) (Ex.extract rfl rfl) ?_
  refine WL.u rfl rfl (Wt.plain rfl) (Ex.assign rfl) ?_
  refine WL.u rfl rfl (Wt.plain rfl) (Ex.assign rfl) ?_
  refine WL.u rfl rfl (Wt.plain rfl) (Ex.assign rfl) ?_
  refine WL.next ?_
  refine WC.seq ?_
  refine WC.region ?_
  refine WL.u rfl rfl (Wt.plain rfl) (Ex.move rfl) ?_
  refine WL.u rfl rfl (Wt.plain rfl) (Ex.move rfl) ?_
  refine WL.u rfl rfl (Wt.plain rfl) (Ex.move rfl) ?_
  refine WL.call callable14 rfl (Wt.plain rfl) rfl rfl (iProofBeamIs g _ _ port t _ (ho17.slAt hH 0 rfl) hs) ?_
  rintro _ wn ⟨rfl, hC⟩; replace hH := hH.call hC; clear hC
  refine WL.u rfl rfl (Wt.plain rfl) (Ex.move rfl) ?_
  refine WL.u rfl rfl (Wt.plain rfl) (Ex.extract rfl rfl) ?_
  refine WL.u rfl rfl (Wt.plain rfl) (Ex.extract rfl rfl) ?_
  refine WL.u rfl rfl (Wt.plain rfl) (Ex.assign rfl) ?_
  refine WL.u rfl rfl (Wt.plain rfl) (Ex.assign rfl) ?_
  refine WL.next ?_
  refine WC.seq ?_
  refine WC.region ?_
  refine WL.u rfl rfl (Wt.plain rfl) (Ex.move rfl) ?_
  refine WL.u rfl rfl (Wt.plain rfl) (Ex.move rfl) ?_
  refine WL.u rfl rfl (Wt.plain rfl) (Ex.move rfl) ?_
  refine WL.call callable13 rfl (Wt.plain rfl) rfl rfl (sProofBeamIs g _ _ port t _ (ho17.slAt hH 0 rfl) hs) ?_
  rintro _ wn ⟨rfl, hC⟩; replace hH := hH.call hC; clear hC
  refine WL.u rfl rfl (Wt.plain rfl) (Ex.move rfl) ?_
  refine WL.u rfl rfl (Wt.plain rfl) (Ex.extract rfl rfl) ?_
  refine WL.u rfl rfl (Wt.plain rfl) (Ex.extract rfl rfl) ?_
  refine WL.u rfl rfl (Wt.plain rfl) (Ex.assign rfl) ?_
  refine WL.u rfl rfl (Wt.plain rfl) (Ex.assign rfl) ?_
  refine WL.next ?_
  refine WC.seq ?_
  refine WC.seq ?_
  refine WC.region ?_
  refine WL.u rfl rfl (Wt.plain rfl) (Ex.move rfl) ?_
  refine WL.u rfl rfl (Wt.plain rfl) (Ex.move rfl) ?_
  refine WL.u rfl rfl (Wt.plain rfl) (Ex.neqB Try.underlying4 rfl rfl) ?_
  refine WL.u rfl rfl (Wt.plain rfl) (Ex.move rfl) ?_
  refine WL.split (t := 38) rfl (fun hg6_3 => ?_) (fun hg6_3 => ?_)
  · exfalso; simp at hg6_3
  have hg6_3' := hg6_3; try simp only [decide_eq_true_eq, decide_eq_false_iff_not, Bool.not_eq_true', Bool.not_eq_false', Bool.not_eq_true, Bool.not_eq_false] at hg6_3'
  refine WL.u rfl rfl (Wt.guard' rfl rfl rfl hg6_3 rfl) (Ex.move rfl) ?_
  refine WL.u rfl rfl (Wt.guard' rfl rfl rfl hg6_3 rfl) (Ex.move rfl) ?_
  refine WL.u rfl rfl (Wt.guard' rfl rfl rfl hg6_3 rfl) (Ex.neq rfl rfl) ?_
  refine WL.u rfl rfl (Wt.plain rfl) (Ex.pickF rfl hg6_3 rfl) ?_
  refine WL.u rfl rfl (Wt.plain rfl) (Ex.move rfl) ?_
  refine WL.split (t := 43) rfl (fun hg6_8 => ?_) (fun hg6_8 => ?_)
  · exfalso; simp at hg6_8
  have hg6_8' := hg6_8; try simp only [decide_eq_true_eq, decide_eq_false_iff_not, Bool.not_eq_true', Bool.not_eq_false', Bool.not_eq_true, Bool.not_eq_false] at hg6_8'
  refine WL.u rfl rfl (Wt.guard' rfl rfl rfl hg6_8 rfl) (Ex.move rfl) ?_
  refine WL.u rfl rfl (Wt.guard' rfl rfl rfl hg6_8 rfl) (Ex.not rfl) ?_
  refine WL.u rfl rfl (Wt.plain rfl) (Ex.pickF rfl hg6_8 rfl) ?_
  refine WL.next ?_
  refine WC.cond rfl (fun hc2 => ?_) (fun hc2 => ?_)
  · have hc2' := hc2; try simp only [decide_eq_true_eq, decide_eq_false_iff_not, Bool.not_eq_true', Bool.not_eq_false', Bool.not_eq_true, Bool.not_eq_false] at hc2'
    refine WC.seq ?_
    refine WC.region ?_
    refine WL.u rfl rfl (Wt.plain rfl) (Ex.move rfl) ?_
    refine WL.u rfl rfl (Wt.plain rfl) (Ex.move rfl) ?_
    refine WL.u rfl rfl (Wt.plain rfl) (Ex.eqlB Try.underlying4 rfl rfl) ?_
    refine WL.u rfl rfl (Wt.plain rfl) (Ex.move rfl) ?_
    refine WL.split (t := 50) rfl (fun hg7_3 => ?_) (fun hg7_3 => ?_)
    · have hg7_3' := hg7_3; try simp only [decide_eq_true_eq, decide_eq_false_iff_not, Bool.not_eq_true', Bool.not_eq_false', Bool.not_eq_true, Bool.not_eq_false] at hg7_3'
      refine WL.u rfl rfl (Wt.guard' rfl rfl rfl hg7_3 rfl) (Ex.move rfl) ?_
      refine WL.u rfl rfl (Wt.guard' rfl rfl rfl hg7_3 rfl) (Ex.move rfl) ?_
      refine WL.u rfl rfl (Wt.guard' rfl rfl rfl hg7_3 rfl) (Ex.eql rfl rfl) ?_
      refine WL.u rfl rfl (Wt.plain rfl) (Ex.pickT rfl hg7_3 rfl) ?_
      refine WL.u rfl rfl (Wt.plain rfl) (Ex.assign rfl) ?_
      refine WL.next ?_
      refine WC.ret ?_
      refine WN.retThen ?_
      refine WN.body1 rfl rfl ?_
      exact ⟨congrArg Value.bool (decide_eq_true rfl), hH.keep⟩
    exfalso; simp at hg7_3
  have hc2' := hc2; try simp only [decide_eq_true_eq, decide_eq_false_iff_not, Bool.not_eq_true', Bool.not_eq_false', Bool.not_eq_true, Bool.not_eq_false] at hc2'
  have hok : (proofBeamIs g port t).2 = true := by simpa using hc2
  have hbe := beamIs_end hok
  refine WC.skip ?_
  refine WN.next ?_
  refine WC.seq ?_
  refine WC.region ?_
  refine WL.u rfl rfl (Wt.plain rfl) (Ex.move rfl) ?_
  refine WL.u rfl rfl (Wt.plain rfl) (Ex.move rfl) ?_
  refine WL.call callable16 rfl (Wt.plain rfl) rfl rfl (iBeamEnd g _ _ port _ (ho17.slAt hH 0 rfl) hs) ?_
  rintro _ wn ⟨rfl, hC⟩; replace hH := hH.call hC; clear hC
  refine WL.u rfl rfl (Wt.plain rfl) (Ex.move rfl) ?_
  refine WL.u rfl rfl (Wt.plain rfl) (Ex.extract rfl rfl) ?_
  refine WL.u rfl rfl (Wt.plain rfl) (Ex.extract rfl rfl) ?_
  refine WL.u rfl rfl (Wt.plain rfl) (Ex.assign rfl) ?_
  refine WL.u rfl rfl (Wt.plain rfl) (Ex.assign rfl) ?_
  refine WL.next ?_
  refine WC.seq ?_
  refine WC.region ?_
  refine WL.u rfl rfl (Wt.plain rfl) (Ex.move rfl) ?_
  refine WL.u rfl rfl (Wt.plain rfl) (Ex.move rfl) ?_
  refine WL.split (t := 62) rfl (fun hg9_1 => ?_) (fun hg9_1 => ?_)
  · have hg9_1' := hg9_1; try simp only [decide_eq_true_eq, decide_eq_false_iff_not, Bool.not_eq_true', Bool.not_eq_false', Bool.not_eq_true, Bool.not_eq_false] at hg9_1'
    refine WL.u rfl rfl (Wt.guard' rfl rfl rfl hg9_1 rfl) (Ex.move rfl) ?_
    refine WL.u rfl rfl (Wt.guard' rfl rfl rfl hg9_1 rfl) (Ex.move rfl) ?_
    refine WL.u rfl rfl (Wt.guard' rfl rfl rfl hg9_1 rfl) (Ex.eql rfl rfl) ?_
    refine WL.u rfl rfl (Wt.plain rfl) (Ex.pickT rfl hg9_1 rfl) ?_
    refine WL.u rfl rfl (Wt.plain rfl) (Ex.assign rfl) ?_
    refine WL.next ?_
    refine WC.ret ?_
    refine WN.body1 rfl rfl ?_
    exact ⟨congrArg Value.bool (decide_eq_true (by rw [hbe])), hH.keep⟩
  exfalso; rw [← hbe, hok] at hg9_1; exact absurd hg9_1 (by decide)

end Go.Proofs.Ytlkdobnfoimieaa
