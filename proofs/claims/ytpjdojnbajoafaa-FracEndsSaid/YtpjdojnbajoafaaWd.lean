/- mainsheetref03's product and quotient on rows of 256 bits: their contracts, whatever the world. -/
import Derived.Test.YtpjdojnbajoafaaWc
namespace Go.Proofs.Ytpjdojnbajoafaa
open Go.RowKit

section
variable {ops : Array Oper} {rest : List Oper} {o : Oper} {a : Act} {w : World} {Q : Exit → Act → World → Prop}
/-- One cell of a row of bits is written. -/
theorem wpB_cell (hgd : o.guard = none) (x y : Operand) (ho : o.op = .store 4 x y) (g k : Nat) (hx : a.eval x = .pointer (some ⟨g, k, none⟩)) (v : Bool) (hy : a.eval y = .bool v) (m : Nat)
    (hg : w.heap[g]? = some (.cells (bA m) 32 (0, 0))) (hk : k < 256)
    (h : ∀ w1 : World, w1.heap[g]? = some (.cells ((bA m).setIfInBounds k (.bool v)) 32 (0, 0)) → (∀ k, k ≠ g → w1.heap[k]? = w.heap[k]?) → (∀ B w0, B ≤ g → Below B w0 w → Below B w0 w1) → w1.heap.size = w.heap.size →
      wpList Try.prog ops Q rest (a.put o.dst undef) w1) : wpList Try.prog ops Q (o :: rest) a w := by
  refine wpList_plain hgd fun K hK => ?_
  have hc : w.cell? ⟨g, k, none⟩ = some (.bool (m.testBit k)) := by rw [cell_of_row w g k _ _ _ hg, bA_get _ _ hk]
  have hf : w.frozen? ⟨g, k, none⟩ = false := frozen_of_row w g k _ _ hg
  have hh := hK _ _ (h _ (heap_setCell_same w g k _ _ (.bool v) hg) (fun j hj => heap_setCell_other w _ j _ hj) (fun B w0 hB hb => hb.setCell hB _) (by simp [World.setCell]))
  unfold Oper.wp execOp
  simp only [ho, hx, hy, Instr.storeAt, Instr.sureAddr, Sem.run_bind, Sem.run_pure, Result.andThen_ok]
  simp [storeVar, sizeOf, hc, hf, go_sem]
  exact hh
end

/-- A block of bits in a world. -/
@[reducible] def IsB (w : World) (g n : Nat) : Prop := w.heap[g]? = some (.cells (bA n) 32 (0, 0))

set_option maxRecDepth 100000 in
set_option maxHeartbeats 400000 in
theorem prod_any (a m : Nat) (w : World) (hm : m < 2 ^ 64) :
    Calls Try.prog 25 #[.agg (bA a), .int .u64 m] w fun e w' => e = .returned (.agg (bA (a * m))) ∧ Below w.heap.size w w' := by
  have hz := bits_zero
  have H0 := Lib.hid (show m / 2 ^ 64 = 0 from Nat.div_eq_of_lt hm)
  have hm0 : 0 ≤ (m : Int) := by omega
  clear hm
  go_enter Try.func25, Try.ntmps25
  go_wp2_with fail
  go_loopw [6] (fun i wr => ∃ k : Nat, k ≤ 64 ∧ i = .int .i64 ((k : Int) - 1) ∧ IsB wr w.heap.size a ∧ IsB wr (w.heap.size + 1) 0 ∧ IsB wr (w.heap.size + 1 + 1) (a * (m / 2 ^ k)) ∧ Below w.heap.size w wr ∧ w.heap.size + 1 + 1 < wr.heap.size)
    (fun i _ => (intOf i + 1).toNat)
  case atStart =>
    refine ⟨64, by omega, rfl, ?_, ?_, ?_, ?_, by simp⟩
    · unfold IsB; exact (by repeat (first | (with_reducible refine heap_top _ _ _ ?_; first | (simp; done) | (simp; omega)) | rw [Below.heap_alloc _ _ _ (by first | (simp; done) | (simp; omega))]))
    · unfold IsB; exact (by repeat (first | (with_reducible refine heap_top _ _ _ ?_; first | (simp; done) | (simp; omega)) | rw [Below.heap_alloc _ _ _ (by first | (simp; done) | (simp; omega))]))
    · rw [H0.out, Nat.mul_zero]; unfold IsB; exact (by repeat (first | (with_reducible refine heap_top _ _ _ ?_; first | (simp; done) | (simp; omega)) | rw [Below.heap_alloc _ _ _ (by first | (simp; done) | (simp; omega))]))
    · exact (((Below.refl _ _).alloc (Nat.le_refl _) _).alloc (by simp) _).alloc (by simp; omega) _
  case round =>
    obtain ⟨k, hk, rfl, hA, hR, hX, hbel, hsz⟩ := hrel
    by_cases hlt : 1 ≤ k
    · obtain ⟨j, rfl⟩ : ∃ j, k = j + 1 := ⟨k - 1, by omega⟩
      have e : (((j + 1 : Nat) : Int) - 1) = (j : Int) := by omega
      rw [e]
      clear e
      have hj : (j : Int) < 64 := by omega
      have HP := Lib.hid (prod_step a m j)
      have ht := bit_tmod m j
      generalize a * (m / 2 ^ (j + 1)) = X at hX HP
      generalize m.testBit j = x at HP ht
      cases x
      all_goals go_wp2_with (first
        | (with_reducible refine wpB_load rfl (.tmp 5) rfl (w.heap.size + 1 + 1) rfl _ (by with_reducible assumption) ?_)
        | (with_reducible refine wpB_load rfl (.tmp 2) rfl (w.heap.size) rfl _ (by with_reducible assumption) ?_)
        | (with_reducible refine wpB_store rfl (.tmp 5) (.tmp 12) rfl (w.heap.size + 1 + 1) rfl (2 * X) X rfl (by with_reducible assumption) ?_; intro w2 g1 g2 g3 g4; have hA2 := (g2 w.heap.size (by omega)).trans hA1; have hR2 := (g2 (w.heap.size + 1) (by omega)).trans hR1; have hbel2 := g3 _ _ (by omega) hbel1; have hsz2 : w.heap.size + 1 + 1 < w2.heap.size := by omega)
        | (go_at_call 56; refine (twice_any _ _).mono ?_; rintro e w1 ⟨rfl, hb1⟩; have hA1 := (hb1.block _ (by omega)).trans hA; have hR1 := (hb1.block _ (by omega)).trans hR; have hX1 := (hb1.block _ (by omega)).trans hX; have hbel1 := hbel.trans (hb1.mono (by omega)); have hsz1 : w.heap.size + 1 + 1 < w1.heap.size := by have := hb1.size; omega)
        | (with_reducible refine wpB_store rfl (.tmp 5) (.tmp 21) rfl (w.heap.size + 1 + 1) rfl (2 * X + a) (2 * X) rfl (by with_reducible assumption) ?_; intro w4 k1 k2 k3 k4; have hA4 := (k2 w.heap.size (by omega)).trans hA3; have hR4 := (k2 (w.heap.size + 1) (by omega)).trans hR3; have hbel4 := k3 _ _ (by omega) hbel3; have hsz4 : w.heap.size + 1 + 1 < w4.heap.size := by omega)
        | (go_at_call 29; refine (sum_any _ _ _).mono ?_; rintro e w3 ⟨rfl, hb3⟩; have hA3 := (hb3.block _ (by omega)).trans hA2; have hR3 := (hb3.block _ (by omega)).trans hR2; have hX3 := (hb3.block _ (by omega)).trans g1; have hbel3 := hbel2.trans (hb3.mono (by omega)); have hsz3 : w.heap.size + 1 + 1 < w3.heap.size := by have := hb3.size; omega))
      · exact ⟨⟨j, by omega, rfl, hA2, hR2, by rw [HP.out]; exact g1, hbel2, hsz2⟩, by simp [intOf]⟩
      · exact ⟨⟨j, by omega, rfl, hA4, hR4, by rw [HP.out]; exact k1, hbel4, hsz4⟩, by simp [intOf]⟩
    · obtain rfl : k = 0 := by omega
      have e : (((0 : Nat) : Int) - 1) = -1 := rfl
      rw [e]
      have e2 : a * (m / 2 ^ 0) = a * m := by simp
      rw [e2] at hX
      clear e e2
      go_wp2_with (first
        | (with_reducible refine wpB_load rfl (.tmp 5) rfl (w.heap.size + 1 + 1) rfl (a * m) hX ?_)
        | (with_reducible refine wpB_store rfl (.tmp 4) (.tmp 22) rfl (w.heap.size + 1) rfl (a * m) 0 rfl hR ?_; intro w1 h1 h2 h3 h4))
      refine bits_ret (g := w.heap.size + 1) (n := a * m) rfl rfl h1 ⟨rfl, ?_⟩
      exact h3 _ _ (by omega) hbel
end Go.Proofs.Ytpjdojnbajoafaa
