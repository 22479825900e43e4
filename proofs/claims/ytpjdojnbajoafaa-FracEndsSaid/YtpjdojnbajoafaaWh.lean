/- The small functions of package wide: their contracts, whatever the world. -/
import Derived.Test.YtpjdojnbajoafaaWw
import Derived.Test.YtpjdojnbajoafaaWm
import Derived.Test.YtpjdojnbajoafaaCalm
import Derived.BigRegion
import Derived.BigQuiet
namespace Go.Proofs.Ytpjdojnbajoafaa
open Go.RowKit

/-- One part of 32 bits of a number. -/
@[irreducible] def dg (n i : Nat) : Nat := n / 2 ^ (32 * i) % 2 ^ 32
/-- A number's seven parts. -/
def qA (n : Nat) : Array Value := Array.ofFn (n := 7) fun i => .int .u64 (dg n i.val)
theorem qA_lit (n : Nat) : qA n = #[.int .u64 (dg n 0), .int .u64 (dg n 1), .int .u64 (dg n 2), .int .u64 (dg n 3), .int .u64 (dg n 4), .int .u64 (dg n 5), .int .u64 (dg n 6)] := by
  simp [qA, Array.ofFn_succ]
theorem qA_size (n : Nat) : (qA n).size = 7 := by simp [qA]
theorem qA_get (n k : Nat) (h : k < 7) : (qA n)[k]? = some (.int .u64 (dg n k)) := by simp [qA, h]
theorem qA_set (n m k : Nat) (v : Int) (hv : (dg m k : Int) = v) (h : ∀ j, j < 7 → j ≠ k → dg m j = dg n j) : (qA n).setIfInBounds k (.int .u64 v) = qA m := by
  apply Array.ext_getElem?
  intro j
  rw [Array.getElem?_setIfInBounds]
  by_cases hj : j < 7
  · rw [qA_get _ _ hj, qA_get _ _ hj, qA_size]
    by_cases h2 : k = j
    · subst h2; simp [hj, hv]
    · simp [h2, h j hj (fun e => h2 e.symm)]
  · have h1 : (qA n)[j]? = none := by simp [qA_size]; omega
    have h2 : (qA m)[j]? = none := by simp [qA_size]; omega
    rw [h1, h2, qA_size]
    by_cases h2 : k = j
    · simp [h2, hj]
    · simp [h2]

theorem wOf_any (n : Int) (w : World) :
    Calls Try.prog 28 #[.int .u64 n] w fun e w' => e = .returned (.agg #[.int .u64 0, .int .u64 n]) ∧ Below w.heap.size w w' := by
  go_enter Try.func28, Try.ntmps28
  go_wp2
  exact bodyPost_ret (v := .agg #[.int .u64 0, .int .u64 n]) (by simp [results, Try.results28, go_sem]) rfl ⟨rfl, (Below.refl _ _).alloc (Nat.le_refl _) _⟩

theorem and32 (x : Nat) (h : x < 2 ^ 64) : bits BinOp.and IntKind.u64 (x : Int) 4294967295 = ((x % 2 ^ 32 : Nat) : Int) := by
  have := bits_and_u64_nat x 4294967295 (by omega) (by omega)
  rw [show ((4294967295 : Nat) : Int) = 4294967295 from rfl] at this
  rw [this, show (4294967295 : Nat) = 2 ^ 32 - 1 from rfl, Nat.and_two_pow_sub_one_eq_mod]

theorem of_dg (h l n : Nat) (hh : h < 2 ^ 64) (hl : l < 2 ^ 64) (hn : h * 2 ^ 64 + l = n) :
    (#[.int .u64 ((l % 2 ^ 32 : Nat) : Int), .int .u64 ((l / 2 ^ 32 : Nat) : Int), .int .u64 ((h % 2 ^ 32 : Nat) : Int), .int .u64 ((h / 2 ^ 32 : Nat) : Int), .int .u64 0, .int .u64 0, .int .u64 0] : Array Value) = qA n := by
  subst hn
  rw [qA_lit]
  unfold dg
  simp only [Nat.mul_zero, Nat.reduceMul, Nat.reducePow]
  congr 1
  simp only [List.cons.injEq, Value.int.injEq, true_and, and_true]
  omega

set_option maxRecDepth 100000 in
theorem wof_any (h l n : Nat) (w : World) (hh : h < 2 ^ 64) (hl : l < 2 ^ 64) (hn : h * 2 ^ 64 + l = n) :
    Calls Try.prog 52 #[.agg #[.int .u64 h, .int .u64 l]] w fun e w' => e = .returned (.agg (qA n)) ∧ Below w.heap.size w w' := by
  have e1 := and32 l hl
  have e2 := and32 h hh
  have e3 : (l : Int) / 4294967296 = ((l / 2 ^ 32 : Nat) : Int) := by omega
  have e4 : (h : Int) / 4294967296 = ((h / 2 ^ 32 : Nat) : Int) := by omega
  have HE := Lib.hid (of_dg h l n hh hl hn)
  generalize l % 2 ^ 32 = a at *
  generalize l / 2 ^ 32 = b at *
  generalize h % 2 ^ 32 = c at *
  generalize h / 2 ^ 32 = d at *
  clear hh hl hn
  go_enter Try.func52, Try.ntmps52
  go_wp2
  refine bodyPost_ret (v := .agg (qA n)) (by rw [← HE.out]; simp [results, Try.results52, go_sem]) rfl ⟨rfl, ((Below.refl _ _).alloc (Nat.le_refl _) _).alloc (by simp) _⟩

theorem or32 (a b : Nat) (ha : a < 2 ^ 32) (hb : b < 2 ^ 32) : bits BinOp.or IntKind.u64 (IntKind.u64.wrap ((a : Int) * 4294967296)) (b : Int) = ((a * 2 ^ 32 + b : Nat) : Int) := by
  have e : IntKind.u64.wrap ((a : Int) * 4294967296) = ((a * 2 ^ 32 : Nat) : Int) := by rw [IntKind.wrap_u64]; omega
  rw [e, bits_or_u64_nat _ _ (by omega) (by omega), nat_join 32 _ _ (by omega) hb]
theorem dg_lt (n i : Nat) : dg n i < 2 ^ 32 := by unfold dg; exact Nat.mod_lt _ (by decide)
theorem dg_low (n : Nat) : (dg n 3 * 2 ^ 32 + dg n 2) * 2 ^ 64 + (dg n 1 * 2 ^ 32 + dg n 0) = n % 2 ^ 128 := by
  unfold dg; simp only [Nat.mul_zero, Nat.reduceMul, Nat.reducePow]; omega
/-- Whether a number has no more than 128 bits. -/
def few (n : Nat) : Bool := decide (n < 2 ^ 128)
theorem dg_high (n : Nat) (hn : n < 2 ^ 224) : few n = (decide (dg n 4 = 0) && decide (dg n 5 = 0) && decide (dg n 6 = 0)) := by
  unfold dg few; simp only [Nat.reduceMul, Nat.reducePow] at *
  rw [Bool.eq_iff_iff]; simp only [Bool.and_eq_true, decide_eq_true_eq]; omega

/-- Three parts are 0. -/
def nought (q4 q5 q6 : Nat) : Bool := decide (q4 = 0) && decide (q5 = 0) && decide (q6 = 0)

set_option maxRecDepth 100000 in
set_option maxHeartbeats 1000000 in
theorem qwide_aux (q0 q1 q2 q3 q4 q5 q6 h l : Nat) (w : World) (e1 : bits BinOp.or IntKind.u64 (IntKind.u64.wrap ((q3 : Int) * 4294967296)) (q2 : Int) = (h : Int)) (e2 : bits BinOp.or IntKind.u64 (IntKind.u64.wrap ((q1 : Int) * 4294967296)) (q0 : Int) = (l : Int)) :
    Calls Try.prog 54 #[.agg #[.int .u64 q0, .int .u64 q1, .int .u64 q2, .int .u64 q3, .int .u64 q4, .int .u64 q5, .int .u64 q6]] w fun e w' =>
      e = .returned (.tuple #[.agg #[.int .u64 h, .int .u64 l], .bool (nought q4 q5 q6)]) ∧ Below w.heap.size w w' := by
  by_cases z4 : q4 = 0
  · have t4 : ((q4 : Int) == 0) = true := by rw [z4]; rfl
    by_cases z5 : q5 = 0
    · have t5 : ((q5 : Int) == 0) = true := by rw [z5]; rfl
      obtain ⟨b, hb⟩ : ∃ b, ((q6 : Int) == 0) = b := ⟨_, rfl⟩
      have HF := Lib.hid (show nought q4 q5 q6 = b by unfold nought; rw [decide_eq_true z4, decide_eq_true z5, Bool.true_and, Bool.true_and, ← hb, Bool.eq_iff_iff]; simp)
      clear z4 z5
      go_enter Try.func54, Try.ntmps54
      go_wp2
      go_region
      go_wp2
      exact bodyPost_ret (v := .tuple #[.agg #[.int .u64 h, .int .u64 l], .bool b]) (by simp [results, Try.results54, go_sem]) rfl ⟨by rw [HF.out], (((Below.refl _ _).alloc (Nat.le_refl _) _).alloc (by simp) _).drew⟩
    · have t5 : ((q5 : Int) == 0) = false := by simpa using z5
      have HF := Lib.hid (show nought q4 q5 q6 = false by unfold nought; rw [decide_eq_false z5, Bool.and_false, Bool.false_and])
      clear z4 z5
      go_enter Try.func54, Try.ntmps54
      go_wp2
      go_region
      go_wp2
      exact bodyPost_ret (v := .tuple #[.agg #[.int .u64 h, .int .u64 l], .bool false]) (by simp [results, Try.results54, go_sem]) rfl ⟨by rw [HF.out], (((Below.refl _ _).alloc (Nat.le_refl _) _).alloc (by simp) _).drew⟩
  · have t4 : ((q4 : Int) == 0) = false := by simpa using z4
    have HF := Lib.hid (show nought q4 q5 q6 = false by unfold nought; rw [decide_eq_false z4, Bool.false_and, Bool.false_and])
    clear z4
    go_enter Try.func54, Try.ntmps54
    go_wp2
    go_region
    go_wp2
    exact bodyPost_ret (v := .tuple #[.agg #[.int .u64 h, .int .u64 l], .bool false]) (by simp [results, Try.results54, go_sem]) rfl ⟨by rw [HF.out], (((Below.refl _ _).alloc (Nat.le_refl _) _).alloc (by simp) _).drew⟩

theorem two32 (a b : Nat) (ha : a < 2 ^ 32) (hb : b < 2 ^ 32) : a * 2 ^ 32 + b < 2 ^ 64 := by omega
theorem qwide_any (n : Nat) (w : World) (hn : n < 2 ^ 224) :
    Calls Try.prog 54 #[.agg (qA n)] w fun e w' => ∃ h l : Nat, e = .returned (.tuple #[.agg #[.int .u64 h, .int .u64 l], .bool (few n)]) ∧ h < 2 ^ 64 ∧ l < 2 ^ 64 ∧ h * 2 ^ 64 + l = n % 2 ^ 128 ∧ Below w.heap.size w w' := by
  rw [qA_lit]
  refine (qwide_aux (dg n 0) (dg n 1) (dg n 2) (dg n 3) (dg n 4) (dg n 5) (dg n 6) _ _ w (or32 _ _ (dg_lt n 3) (dg_lt n 2)) (or32 _ _ (dg_lt n 1) (dg_lt n 0))).mono ?_
  rintro e w' ⟨rfl, hb⟩
  exact ⟨_, _, by rw [dg_high n hn]; rfl, two32 _ _ (dg_lt n 3) (dg_lt n 2), two32 _ _ (dg_lt n 1) (dg_lt n 0), dg_low n, hb⟩

end Go.Proofs.Ytpjdojnbajoafaa
