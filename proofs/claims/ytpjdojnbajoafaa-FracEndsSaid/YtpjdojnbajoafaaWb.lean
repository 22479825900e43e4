/- The functions of mainsheetref03 on rows of 256 bits: their contracts, whatever the world. -/
import Derived.Test.YtpjdojnbajoafaaProg
import Derived.Test.YtpjdojnbajoafaaWm
import Derived.Test.YtpjdojnbajoafaaKit
import Derived.KernelRfl
import Derived.Deep.WholeRow
import Derived.Laws.CopyOwn
namespace Go.Proofs.Ytpjdojnbajoafaa
open Go.RowKit

theorem bits_info : (Try.prog.info? 32).map (fun i => (i.zero, i.size)) = some (some (.agg (Array.replicate 256 (.bool false))), 256) := by kernel_rfl
theorem bits_zero (w : World) : (zeroValue 32).run Try.prog w = .ok (.agg (bA 0)) w := by
  rw [bA_zero]; exact (zero_of_info bits_info).1 w
theorem bits_size (n : Nat) : (Try.prog.info? 32).map (·.size) = some (bA n).size := by
  rw [bA_size]; exact (zero_of_info bits_info).2

section
variable {ops : Array Oper} {rest : List Oper} {o : Oper} {a : Act} {w : World} {Q : Exit → Act → World → Prop}
/-- A row of bits is read whole. -/
theorem wpB_load (hgd : o.guard = none) (x : Operand) (ho : o.op = .load 32 x) (g : Nat) (hx : a.eval x = .pointer (some ⟨g, 0, none⟩)) (n : Nat)
    (hg : w.heap[g]? = some (.cells (bA n) 32 (0, 0))) (h : wpList Try.prog ops Q rest (a.put o.dst (.agg (bA n))) w) : wpList Try.prog ops Q (o :: rest) a w :=
  wpList_load_row hgd _ x ho g hx _ _ _ _ hg Try.underlying32 rfl (bits_size n) h
/-- A row of bits is written whole. -/
theorem wpB_store (hgd : o.guard = none) (x y : Operand) (ho : o.op = .store 32 x y) (g : Nat) (hx : a.eval x = .pointer (some ⟨g, 0, none⟩)) (n m : Nat) (hy : a.eval y = .agg (bA n))
    (hg : w.heap[g]? = some (.cells (bA m) 32 (0, 0)))
    (h : ∀ w1 : World, w1.heap[g]? = some (.cells (bA n) 32 (0, 0)) → (∀ k, k ≠ g → w1.heap[k]? = w.heap[k]?) → (∀ B w0, B ≤ g → Below B w0 w → Below B w0 w1) → w1.heap.size = w.heap.size →
      wpList Try.prog ops Q rest (a.put o.dst undef) w1) : wpList Try.prog ops Q (o :: rest) a w :=
  wpList_store_row hgd _ x y ho g _ hx hy _ _ hg (bits_size n) (by rw [bA_size, bA_size]) (bA_oneCell n)
    (h _ (setRow_heap w g _ _ _ _ hg) (fun k hk => setRow_other w g k _ hk) (fun _ _ hB hb => below_setRow hb hB _) (by simp))
/-- A result that is a row of bits in a cell of its own. -/
theorem bits_ret {fn : Func} {p : Tmp} {R : Ending → World → Prop} {tmps : Array Value} (h : fn.results = #[.cell p 32]) (g n : Nat)
    (hp : tmps.getD p undef = .pointer (some ⟨g, 0, none⟩)) (hg : w.heap[g]? = some (.cells (bA n) 32 (0, 0))) (hR : R (.returned (.agg (bA n))) w) :
    bodyPost Try.prog fn R .ret { tmps, defers := [] } w :=
  bodyPost_ret (results_cell_row h tmps w g _ _ _ _ hp hg Try.underlying32 rfl (bits_size n)) rfl hR
end

set_option maxRecDepth 100000 in
set_option maxHeartbeats 400000 in
theorem sum_any (a b : Nat) (w : World) :
    Calls Try.prog 29 #[.agg (bA a), .agg (bA b)] w fun e w' => e = .returned (.agg (bA (a + b))) ∧ Below w.heap.size w w' := by
  have hz := bits_zero
  go_enter Try.func29, Try.ntmps29
  go_wp2_with fail
  go_loopw [6, 7] (fun c i wr => ∃ k : Nat, k ≤ 256 ∧ i = .int .i64 k ∧ c = .bool (decide (2 ^ k ≤ sAt a b k)) ∧
      wr = (((w.alloc (Obj.cells (bA a) 32)).alloc (Obj.cells (bA b) 32)).alloc (Obj.cells (bA 0) 32)).alloc (Obj.cells (bA (sAt a b k % 2 ^ k)) 32))
    (fun _ i _ => 256 - (intOf i).toNat)
  case atStart => exact ⟨0, by omega, rfl, by simp [sAt, Nat.mod_one], by simp [sAt, Nat.mod_one]⟩
  case round =>
    obtain ⟨k, hk, rfl, rfl, rfl⟩ := hrel
    by_cases hlt : k < 256
    · have hlt' : (k : Int) < 256 := by omega
      have hA := bA_get a k hlt
      have hB := bA_get b k hlt
      have hS := bA_size (sAt a b k % 2 ^ k)
      obtain ⟨x, hx⟩ : ∃ x, a.testBit k = x := ⟨_, rfl⟩
      obtain ⟨y, hy⟩ : ∃ y, b.testBit k = y := ⟨_, rfl⟩
      obtain ⟨c, hc⟩ : ∃ c, decide (2 ^ k ≤ sAt a b k) = c := ⟨_, rfl⟩
      rw [hx] at hA; rw [hy] at hB; rw [hc]
      have hs := sum_step a b k (x.toNat + y.toNat + c.toNat) (by rw [hx, hy, hc])
      have hm' : sAt a b k % 2 ^ k < 2 ^ k := Nat.mod_lt _ (Nat.two_pow_pos k)
      clear hx hy hc
      generalize sAt a b k % 2 ^ k = m at hS hs hm' ⊢
      have Hs := Lib.hid hs; clear hs
      have Hm := Lib.hid hm'; clear hm'
      cases x <;> cases y <;> cases c
      all_goals
        go_wp2_with fail
        exact ⟨⟨k + 1, by omega, by go_num, by rw [Hs.out.2]; rfl, by rw [Hs.out.1, bA_set _ _ _ Hm.out]; rfl⟩, by simp [intOf]; omega⟩
    · have hlt' : 256 ≤ (k : Int) := by omega
      have e : bA (sAt a b k % 2 ^ k) = bA (a + b) := by
        obtain rfl : k = 256 := by omega
        rw [sAt, ← Nat.add_mod, bA_mod]
      rw [e]
      clear e
      generalize decide (2 ^ k ≤ sAt a b k) = c
      go_wp2_with (first
        | (with_reducible refine wpB_load rfl (.tmp 5) rfl (w.heap.size + 1 + 1 + 1) rfl (a + b) (by repeat (first | (with_reducible refine heap_top _ _ _ ?_; first | (simp; done) | (simp; omega)) | rw [Below.heap_alloc _ _ _ (by first | (simp; done) | (simp; omega))])) ?_)
        | (with_reducible refine wpB_store rfl (.tmp 4) (.tmp 33) rfl (w.heap.size + 1 + 1) rfl (a + b) 0 rfl (by repeat (first | (with_reducible refine heap_top _ _ _ ?_; first | (simp; done) | (simp; omega)) | rw [Below.heap_alloc _ _ _ (by first | (simp; done) | (simp; omega))])) ?_; intro w1 h1 h2 h3 h4))
      refine bits_ret (g := w.heap.size + 1 + 1) (n := a + b) rfl rfl h1 ⟨rfl, ?_⟩
      exact h3 _ _ (by omega) (((((Below.refl _ _).alloc (by simp) _).alloc (by simp) _).alloc (by simp; omega) _).alloc (by simp; omega) _)
end Go.Proofs.Ytpjdojnbajoafaa
