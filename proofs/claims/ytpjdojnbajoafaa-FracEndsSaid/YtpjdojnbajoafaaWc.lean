/- More of mainsheetref03's functions on rows of 256 bits: their contracts, whatever the world. -/
import Derived.Test.YtpjdojnbajoafaaWb
import Derived.BigQuiet
import Derived.WalkSmall
import Derived.Deep.QuietTactic
namespace Go.Proofs.Ytpjdojnbajoafaa
open Go.RowKit

set_option maxRecDepth 100000 in
set_option maxHeartbeats 400000 in
theorem twice_any (a : Nat) (w : World) :
    Calls Try.prog 56 #[.agg (bA a)] w fun e w' => e = .returned (.agg (bA (2 * a))) ∧ Below w.heap.size w w' := by
  have hz := bits_zero
  go_enter Try.func56, Try.ntmps56
  go_wp2_with fail
  go_loopw [4] (fun i wr => ∃ k : Nat, 1 ≤ k ∧ k ≤ 256 ∧ i = .int .i64 k ∧
      wr = ((w.alloc (Obj.cells (bA a) 32)).alloc (Obj.cells (bA 0) 32)).alloc (Obj.cells (bA ((2 * a) % 2 ^ k)) 32))
    (fun i _ => 256 - (intOf i).toNat)
  case atStart => exact ⟨1, by omega, by omega, rfl, by simp⟩
  case round =>
    obtain ⟨k, hk1, hk, rfl, rfl⟩ := hrel
    by_cases hlt : k < 256
    · have hlt' : (k : Int) < 256 := by omega
      have hk1' : 1 ≤ (k : Int) := by omega
      have hA := bA_get a (k - 1) (by omega)
      have hS := bA_size ((2 * a) % 2 ^ k)
      have Hs := Lib.hid (twice_step a k hk1)
      have hm' : (2 * a) % 2 ^ k < 2 ^ k := Nat.mod_lt _ (Nat.two_pow_pos k)
      generalize a.testBit (k - 1) = x at hA Hs
      have Hm := Lib.hid hm'; clear hm'
      go_wp2_with fail
      exact ⟨⟨k + 1, by omega, by omega, by go_num, by rw [Hs.out, bA_set _ _ _ Hm.out]⟩, by simp [intOf]; omega⟩
    · have hlt' : 256 ≤ (k : Int) := by omega
      have e : bA ((2 * a) % 2 ^ k) = bA (2 * a) := by
        obtain rfl : k = 256 := by omega
        rw [bA_mod]
      rw [e]
      clear e
      go_wp2_with (first
        | (with_reducible refine wpB_load rfl (.tmp 3) rfl (w.heap.size + 1 + 1) rfl (2 * a) (by repeat (first | with_reducible exact heap_top _ _ _ (by simp) | rw [Below.heap_alloc _ _ _ (by simp)] | rw [Below.heap_alloc _ _ _ (by simp; omega)])) ?_)
        | (with_reducible refine wpB_store rfl (.tmp 2) (.tmp 15) rfl (w.heap.size + 1) rfl (2 * a) 0 rfl (by repeat (first | with_reducible exact heap_top _ _ _ (by simp) | rw [Below.heap_alloc _ _ _ (by simp)] | rw [Below.heap_alloc _ _ _ (by simp; omega)])) ?_; intro w1 h1 h2 h3 h4))
      refine bits_ret (g := w.heap.size + 1) (n := 2 * a) rfl rfl h1 ⟨rfl, ?_⟩
      exact h3 _ _ (by omega) ((((Below.refl _ _).alloc (by simp) _).alloc (by simp) _).alloc (by simp; omega) _)

set_option maxRecDepth 100000 in
set_option maxHeartbeats 1000000 in
theorem take_any (a b : Nat) (w : World) (ha : a < 2 ^ 256) (hb : b ≤ a) :
    Calls Try.prog 31 #[.agg (bA a), .agg (bA b)] w fun e w' => e = .returned (.agg (bA (a - b))) ∧ Below w.heap.size w w' := by
  have hz := bits_zero
  have Hend := Lib.hid (take_end a b ha hb)
  clear ha hb
  go_enter Try.func31, Try.ntmps31
  go_wp2_with fail
  go_loopw [6, 7] (fun c i wr => ∃ k : Nat, k ≤ 256 ∧ i = .int .i64 k ∧ c = .bool (decide (a % 2 ^ k < b % 2 ^ k)) ∧
      wr = (((w.alloc (Obj.cells (bA a) 32)).alloc (Obj.cells (bA b) 32)).alloc (Obj.cells (bA 0) 32)).alloc (Obj.cells (bA (tAt a b k)) 32))
    (fun _ i _ => 256 - (intOf i).toNat)
  case atStart => exact ⟨0, by omega, rfl, by simp [Nat.mod_one], by simp [tAt, Nat.mod_one]⟩
  case round =>
    obtain ⟨k, hk, rfl, rfl, rfl⟩ := hrel
    by_cases hlt : k < 256
    · have hlt' : (k : Int) < 256 := by omega
      have hA := bA_get a k hlt
      have hB := bA_get b k hlt
      have hS := bA_size (tAt a b k)
      obtain ⟨x, hx⟩ : ∃ x, a.testBit k = x := ⟨_, rfl⟩
      obtain ⟨y, hy⟩ : ∃ y, b.testBit k = y := ⟨_, rfl⟩
      obtain ⟨c, hc⟩ : ∃ c, decide (a % 2 ^ k < b % 2 ^ k) = c := ⟨_, rfl⟩
      rw [hx] at hA; rw [hy] at hB; rw [hc]
      have hs := take_step a b k ((x.toNat : Int) - y.toNat - c.toNat) (by rw [hx, hy, hc])
      have hm' : tAt a b k < 2 ^ k := Nat.mod_lt _ (Nat.two_pow_pos k)
      clear hx hy hc
      generalize tAt a b k = m at hS hs hm' ⊢
      have Hs := Lib.hid hs; clear hs
      have Hm := Lib.hid hm'; clear hm'
      cases x <;> cases y <;> cases c
      all_goals
        go_wp2_with fail
        exact ⟨⟨k + 1, by omega, by go_num, by rw [Hs.out.2]; rfl, by rw [Hs.out.1, bA_set _ _ _ Hm.out]; rfl⟩, by simp [intOf]; omega⟩
    · have hlt' : 256 ≤ (k : Int) := by omega
      have e : bA (tAt a b k) = bA (a - b) := by
        obtain rfl : k = 256 := by omega
        rw [Hend.out]
      rw [e]
      clear e
      generalize decide (a % 2 ^ k < b % 2 ^ k) = c
      clear Hend
      go_wp2_with (first
        | (with_reducible refine wpB_load rfl (.tmp 5) rfl (w.heap.size + 1 + 1 + 1) rfl (a - b) (by repeat (first | with_reducible exact heap_top _ _ _ (by simp) | rw [Below.heap_alloc _ _ _ (by simp)] | rw [Below.heap_alloc _ _ _ (by simp; omega)])) ?_)
        | (with_reducible refine wpB_store rfl (.tmp 4) (.tmp 36) rfl (w.heap.size + 1 + 1) rfl (a - b) 0 rfl (by repeat (first | with_reducible exact heap_top _ _ _ (by simp) | rw [Below.heap_alloc _ _ _ (by simp)] | rw [Below.heap_alloc _ _ _ (by simp; omega)])) ?_; intro w1 h1 h2 h3 h4))
      refine bits_ret (g := w.heap.size + 1 + 1) (n := a - b) rfl rfl h1 ⟨rfl, ?_⟩
      exact h3 _ _ (by omega) (((((Below.refl _ _).alloc (by simp) _).alloc (by simp) _).alloc (by simp; omega) _).alloc (by simp; omega) _)

set_option maxRecDepth 100000 in
set_option maxHeartbeats 400000 in
theorem less_any (a b : Nat) (w : World) (ha : a < 2 ^ 256) (hb : b < 2 ^ 256) :
    Calls Try.prog 26 #[.agg (bA a), .agg (bA b)] w fun e w' => e = .returned (.bool (decide (a < b))) ∧ Below w.heap.size w w' := by
  have Hab := Lib.hid (show a / 2 ^ 256 = b / 2 ^ 256 by rw [Nat.div_eq_of_lt ha, Nat.div_eq_of_lt hb])
  clear ha hb
  go_enter Try.func26, Try.ntmps26
  go_wp2_with fail
  go_loopw [5] (fun i wr => ∃ k : Nat, k ≤ 256 ∧ i = .int .i64 ((k : Int) - 1) ∧ Hid (a / 2 ^ k = b / 2 ^ k) ∧
      ∃ n, wr = ((w.alloc (Obj.cells (bA a) 32)).alloc (Obj.cells (bA b) 32)).drewN n)
    (fun i _ => (intOf i + 1).toNat)
  case atStart => exact ⟨256, by omega, rfl, Hab, 0, rfl⟩
  case round =>
    obtain ⟨k, hk, rfl, Hk, n, rfl⟩ := hrel
    by_cases hlt : 1 ≤ k
    · obtain ⟨j, rfl⟩ : ∃ j, k = j + 1 := ⟨k - 1, by omega⟩
      have e : (((j + 1 : Nat) : Int) - 1) = (j : Int) := by omega
      rw [e]
      clear e
      have hj : (j : Int) < 256 := by omega
      have hA := bA_get a j (by omega)
      have hB := bA_get b j (by omega)
      have HS := Lib.hid (less_stop a b j Hk.out)
      have HG := Lib.hid (less_go a b j Hk.out)
      clear Hk
      generalize a.testBit j = x at hA HS HG
      generalize b.testBit j = y at hB HS HG
      cases x <;> cases y
      all_goals
        go_wp2_with fail
        go_quiet (fail)
        go_wp2_with fail
      · exact ⟨⟨j, by omega, rfl, HG.out trivial, _, rfl⟩, by simp [intOf]⟩
      · go_ret
        exact ⟨by rw [HS.out (by simp)]; rfl, below_drewN (((Below.refl _ _).alloc (Nat.le_refl _) _).alloc (by simp) _) _⟩
      · go_ret
        exact ⟨by rw [HS.out (by simp)]; rfl, below_drewN (((Below.refl _ _).alloc (Nat.le_refl _) _).alloc (by simp) _) _⟩
      · exact ⟨⟨j, by omega, rfl, HG.out trivial, _, rfl⟩, by simp [intOf]⟩
    · obtain rfl : k = 0 := by omega
      have hd : decide (a < b) = false := by simpa using (show ¬ a < b by have := Hk.out; simp at this; omega)
      have Hd := Lib.hid hd; clear hd
      have e : (((0 : Nat) : Int) - 1) = -1 := rfl
      rw [e]
      clear Hk e
      go_wp2_with fail
      go_ret
      exact ⟨by rw [Hd.out]; rfl, below_drewN (((Below.refl _ _).alloc (Nat.le_refl _) _).alloc (by simp) _) _⟩
end Go.Proofs.Ytpjdojnbajoafaa
