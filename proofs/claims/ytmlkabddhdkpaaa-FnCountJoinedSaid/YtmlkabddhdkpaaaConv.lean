/- Texts to bytes and a slice put behind another. -/
import Derived.Test.YtmlkabddhdkpaaaEach
import Derived.Laws.IdiomStrings
namespace Go.Proofs.Ytmlkabddhdkpaaa
set_option maxRecDepth 100000
set_option linter.unusedSimpArgs false
set_option linter.unusedVariables false
open Go Go.RowKit

section
variable {P : Program} {n : Nat} {Q : Exit → Act → World → Prop} {σ : Env} {w w0 : World} {ops : Array Oper} {rest : List Oper} {S : List Nat} {L : List (Nat × Obj)}
variable {d : Nat} {ty : TypeId} {pos : String} {af : Array Edge} {g : Option (Nat × Bool)} {x y : Operand} {t e t' : TypeId}

theorem bytes_map (l : List UInt8) : (ByteArray.mk l.toArray).data.map (fun b => Value.int .u8 b.toNat) = (l.map rByte.val).toArray := by
  show l.toArray.map _ = _
  rw [List.map_toArray]; rfl
theorem WL.strBytes {l : List UInt8} (hs : P.underlying t = some .string) (hd : P.underlying t' = some (.slice e)) (he : P.underlying e = some (.int .u8)) (hx : ev σ x = some (vstr l)) (hn : Nat.blt d n = true) (hw : Wt ops ⟨some d, .convert t t' x, ty, pos, af, g⟩ σ true) (hl : l.length ≤ 1000000) (hH : Hp S w0 w L)
    (h : ∀ b cap cur w', w.heap.size ≤ b → Keep [] w w' → Hp S w0 w' ((b, .cells cur e (cur.size, cur.size + 1)) :: L) → Own rByte cur cap l → WL P n ops Q rest ((d, vsl b l.length cap) :: σ) w') : WL P n ops Q (⟨some d, .convert t t' x, ty, pos, af, g⟩ :: rest) σ w := by
  have hsz : (ByteArray.mk l.toArray).size = l.length := bs_size l
  have hr := run_bytes_of_string (P := P) w t t' e (ByteArray.mk l.toArray) hs hd he
  rw [hsz] at hr
  have hge := grownCap_ge w l.length 0 e
  have hcm : grownCap w l.length 0 e ≤ maxLen := grownCap_le_maxLen w _ 0 e (by simp [maxLen]; omega)
  simp only [maxLen] at hcm
  refine WL.u rfl hn hw (fun a ha => by simp only [execOp, ha.evl hx]; simp [hr]) (h w.heap.size (grownCap w l.length 0 e) (bytesRow (ByteArray.mk l.toArray) (grownCap w l.length 0 e)) _ (Nat.le_refl _) ((Keep.drew [] w).trans (Keep.alloc [] w.drew _)) (hH.drew.alloc _) ?_)
  have hb : bytesRow (ByteArray.mk l.toArray) (grownCap w l.length 0 e) = (l.map rByte.val ++ List.replicate (grownCap w l.length 0 e - l.length) (Value.int .u8 0)).toArray := by
    unfold bytesRow
    rw [bytes_map, hsz]
    simp
  refine ⟨?_, hge, by omega, ?_⟩
  · rw [hb, show rByte.sz = 1 from rfl]
    simp only [List.size_toArray, List.length_append, List.length_map, List.length_replicate]; omega
  · unfold Rw
    rw [hb, flat_one (r := rByte) rfl, show rByte.sz = 1 from rfl, Nat.mul_one]
    exact List.take_left' (by simp)
/-- a literal's bytes, converted to their own type: the row bears the mark -/
theorem WL.convSelf {b m c : Nat} {C : Array Value} (hd : P.underlying t = some (.slice e)) (he : P.underlying e = some (.int .u8)) (hx : ev σ x = some (vsl b m c)) (hn : Nat.blt d n = true) (hw : Wt ops ⟨some d, .convert t t x, ty, pos, af, g⟩ σ true) (hH : Hp S w0 w ((b, .cells C e (0, 0)) :: L))
    (h : ∀ w', Keep [b] w w' → Hp S w0 w' ((b, .cells C e (C.size, C.size + 1)) :: L) → WL P n ops Q rest ((d, vsl b m c) :: σ) w') : WL P n ops Q (⟨some d, .convert t t x, ty, pos, af, g⟩ :: rest) σ w := by
  have hb := hH.at 0 rfl
  dsimp only at hb
  have hsh : w.shape? b = some (e, C.size) := by unfold World.shape?; rw [hb]
  have hr : (convert t t (vsl b m c)).run P w = .ok (vsl b m c) (w.freeze ⟨b, C.size, none⟩ 1) := by
    simp [convert, run_underlying hd, run_underlying he, markStringish, hsh]
  have hk : Keep [b] w (w.freeze ⟨b, C.size, none⟩ 1) := by
    unfold World.freeze
    rw [if_neg (by decide)]
    refine ⟨rfl, rfl, rfl, by simp, fun k hk hs => ?_⟩
    have : b ≠ k := fun q => hs (by rw [q]; simp)
    simp [Array.getElem?_modify, this]
  have hv : (w.freeze ⟨b, C.size, none⟩ 1).heap[b]? = some (.cells C e (C.size, C.size + 1)) := by
    unfold World.freeze
    rw [if_neg (by decide)]
    simp [Array.getElem?_modify, hb]
  exact WL.u rfl hn hw (fun a ha => by simp only [execOp, ha.evl hx]; simp [hr]) (h _ hk (hH.turn hk hv))
/-- append(s, y...) onto a row of the call's own -/
theorem WL.appendS {α : Type} {r : Rep α} {z : Value} {by' b cap c b2 off2 : Nat} {cur : Array Value} {l m : List α} {s : Operand}
    (ht : P.underlying t = some (.slice e)) (he : Ty P e z r.sz by') (hzs : z.cells.size = r.sz) (hs : ev σ s = some (vsl b l.length cap)) (hy : ev σ y = some (.slice (some ⟨b2, off2, none⟩) m.length c)) (hm : Sl r w (some ⟨b2, off2, none⟩) m)
    (hn : Nat.blt d n = true) (hw : Wt ops ⟨some d, .call { callee := .builtin .append, args := #[s, y], argTypes := #[t, t] }, ty, pos, af, g⟩ σ true)
    (hH : Hp S w0 w ((b, .cells cur e (0, 0)) :: L)) (ho : Own r cur cap l) (hb : (l.length + m.length) * by' ≤ 140737488355328) (hmx : l.length + m.length ≤ 9223372036854775807)
    (h : ∀ b' cap' cur' w', (b' = b ∨ w.heap.size ≤ b') → Keep [b] w w' → Hp S w0 w' ((b', .cells cur' e (0, 0)) :: L) → Own r cur' cap' (l ++ m) → WL P n ops Q rest ((d, vsl b' (l ++ m).length cap') :: σ) w') :
    WL P n ops Q (⟨some d, .call { callee := .builtin .append, args := #[s, y], argTypes := #[t, t] }, ty, pos, af, g⟩ :: rest) σ w := by
  obtain ⟨b', cap', cur', w', hr, h5, h6, h7, h8⟩ := run_append_hp (P := P) (ty2 := ty) (c := c) (b2 := b2) (off2 := off2) (m := m) ht he hzs hH ho (fun j v hv => by
    rcases hm.2 with rfl | ⟨b3, off3, e3, hc⟩
    · simp at hv
    · cases e3; exact hc j v hv) hb hmx
  exact WL.u rfl hn hw (fun a ha => exec_append ha hs hy hr) (h b' cap' cur' w' h5 h6 h7 h8)
end
end Go.Proofs.Ytmlkabddhdkpaaa
