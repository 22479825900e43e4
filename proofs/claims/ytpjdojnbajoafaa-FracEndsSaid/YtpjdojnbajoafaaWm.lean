/- Plain lemmas on rows of 256 bits, and on numbers of 128 bits: no program in sight. -/
import Derived.WalkKit
import Derived.Lib.Hide
namespace Go.Proofs.Ytpjdojnbajoafaa
open Go.RowKit

/-- The row of the 256 lowest bits of a number. -/
def bA (n : Nat) : Array Value := Array.ofFn (n := 256) fun i => .bool (n.testBit i.val)

theorem bA_size (n : Nat) : (bA n).size = 256 := by simp [bA]
theorem bA_get (n k : Nat) (h : k < 256) : (bA n)[k]? = some (.bool (n.testBit k)) := by simp [bA, h]
theorem bA_ext (m n : Nat) (h : ∀ k, k < 256 → m.testBit k = n.testBit k) : bA m = bA n := by
  unfold bA; congr 1; funext i; rw [h _ i.isLt]
theorem bA_mod (n : Nat) : bA (n % 2 ^ 256) = bA n := bA_ext _ _ fun k h => by rw [Nat.testBit_mod_two_pow]; simp [h]
theorem bA_set (m k : Nat) (v : Bool) (hm : m < 2 ^ k) : (bA m).setIfInBounds k (.bool v) = bA (m + v.toNat * 2 ^ k) := by
  apply Array.ext_getElem?
  intro j
  rw [Array.getElem?_setIfInBounds]
  by_cases hj : j < 256
  · rw [bA_get _ _ hj, bA_get _ _ hj, bA_size]
    have e : (m + v.toNat * 2 ^ k).testBit j = if k = j then v else m.testBit j := by
      rw [show m + v.toNat * 2 ^ k = 2 ^ k * v.toNat + m from by rw [Nat.mul_comm]; omega, Nat.testBit_two_pow_mul_add _ hm]
      by_cases h1 : j < k
      · simp [h1, show ¬ k = j from by omega]
      · by_cases h2 : k = j
        · subst h2; cases v <;> simp
        · have h3 : m.testBit j = false := Nat.testBit_lt_two_pow (Nat.lt_of_lt_of_le hm (Nat.pow_le_pow_right (by omega) (by omega)))
          simp [h1, h2, h3]
          have : j - k ≠ 0 := by omega
          cases v
          · simp
          · exact Nat.testBit_lt_two_pow (Nat.one_lt_two_pow this)
    rw [e]
    by_cases h2 : k = j <;> simp [h2, hj]
  · have h1 : (bA m)[j]? = none := by simp [bA_size]; omega
    have h2 : (bA (m + v.toNat * 2 ^ k))[j]? = none := by simp [bA_size]; omega
    rw [h1, h2, bA_size]
    by_cases h2 : k = j
    · simp [h2, hj]
    · simp [h2]
theorem bA_oneCell (n : Nat) : (bA n).all (·.oneCell') = true := by
  rw [Array.all_eq_true]
  intro i hi
  simp [bA, Value.oneCell']
theorem bA_zero : bA 0 = Array.replicate 256 (.bool false) := by
  apply Array.ext_getElem?
  intro j
  by_cases hj : j < 256
  · rw [bA_get _ _ hj]; simp [hj]
  · have h1 : (bA 0)[j]? = none := by simp [bA_size]; omega
    rw [h1]; simp; omega

theorem mod_succ (a k : Nat) : a % 2 ^ (k + 1) = a % 2 ^ k + (a.testBit k).toNat * 2 ^ k := by
  rw [Nat.mod_pow_succ, Nat.testBit_eq_decide_div_mod_eq]
  have : a / 2 ^ k % 2 < 2 := Nat.mod_lt _ (by omega)
  by_cases h : a / 2 ^ k % 2 = 1
  · simp [h]
  · have h0 : a / 2 ^ k % 2 = 0 := by omega
    simp [h0]

theorem sum_plain (x y u v p : Nat) (hp : 0 < p) (c n : Nat) (hx : x < p) (hy : y < p) (hu : u ≤ 1) (hv : v ≤ 1) (hc : c = (decide (p ≤ x + y)).toNat) (hn : n = u + v + c) :
    (x + u * p + (y + v * p)) % (p * 2) = (x + y) % p + (n % 2) * p ∧ (p * 2 ≤ x + u * p + (y + v * p) ↔ 2 ≤ n) := by
  have hr : x + y = (x + y) % p + c * p := by
    subst hc
    by_cases h : p ≤ x + y
    · rw [Nat.mod_eq_sub_mod h, Nat.mod_eq_of_lt (by omega)]; simp [h]
    · rw [Nat.mod_eq_of_lt (by omega)]; simp [h]
  have hr' : (x + y) % p < p := Nat.mod_lt _ hp
  generalize (x + y) % p = r at *
  have e : x + u * p + (y + v * p) = r + n * p := by subst hn; rw [Nat.add_mul, Nat.add_mul]; omega
  rw [e]
  have hc1 : c ≤ 1 := by subst hc; cases decide (p ≤ x + y) <;> simp
  clear hr hc e
  have hn3 : n = 0 ∨ n = 1 ∨ n = 2 ∨ n = 3 := by omega
  rcases hn3 with h | h | h | h <;> subst h
  · refine ⟨?_, by omega⟩; rw [Nat.mod_eq_of_lt (by omega)]
  · refine ⟨?_, by omega⟩; rw [Nat.mod_eq_of_lt (by omega)]
  · refine ⟨?_, by omega⟩; rw [Nat.mod_eq_sub_mod (by omega), Nat.mod_eq_of_lt (by omega)]; omega
  · refine ⟨?_, by omega⟩; rw [Nat.mod_eq_sub_mod (by omega), Nat.mod_eq_of_lt (by omega)]; omega

/-- One place of a sum. -/
def sAt (a b k : Nat) : Nat := a % 2 ^ k + b % 2 ^ k
theorem sum_step (a b k n : Nat) (hn : n = (a.testBit k).toNat + (b.testBit k).toNat + (decide (2 ^ k ≤ sAt a b k)).toNat) :
    sAt a b (k + 1) % 2 ^ (k + 1) = sAt a b k % 2 ^ k + (n % 2 == 1).toNat * 2 ^ k ∧ decide (2 ^ (k + 1) ≤ sAt a b (k + 1)) = decide (2 ≤ n) := by
  unfold sAt at *
  rw [mod_succ a, mod_succ b, Nat.pow_succ]
  have h := sum_plain (a % 2 ^ k) (b % 2 ^ k) (a.testBit k).toNat (b.testBit k).toNat (2 ^ k) (Nat.two_pow_pos k) _ n (Nat.mod_lt _ (Nat.two_pow_pos k)) (Nat.mod_lt _ (Nat.two_pow_pos k))
    (by cases a.testBit k <;> simp) (by cases b.testBit k <;> simp) rfl hn
  rw [h.1]
  refine ⟨?_, by simp only [h.2]⟩
  have : n % 2 = 0 ∨ n % 2 = 1 := by omega
  rcases this with e | e <;> simp [e]

/-- Two rows are one where they agree at each place. -/
def bF (f : Nat → Bool) : Array Value := Array.ofFn (n := 256) fun i => .bool (f i.val)
theorem bF_size (f : Nat → Bool) : (bF f).size = 256 := by simp [bF]
theorem bF_get (f : Nat → Bool) (k : Nat) (h : k < 256) : (bF f)[k]? = some (.bool (f k)) := by simp [bF, h]
theorem bA_bF (n : Nat) : bA n = bF n.testBit := rfl
theorem bF_ext (f g : Nat → Bool) (h : ∀ k, k < 256 → f k = g k) : bF f = bF g := by
  unfold bF; congr 1; funext i; rw [h _ i.isLt]
theorem bF_set (f g : Nat → Bool) (k : Nat) (v : Bool) (hk : g k = v) (h : ∀ j, j < 256 → j ≠ k → g j = f j) : (bF f).setIfInBounds k (.bool v) = bF g := by
  apply Array.ext_getElem?
  intro j
  rw [Array.getElem?_setIfInBounds]
  by_cases hj : j < 256
  · rw [bF_get _ _ hj, bF_get _ _ hj, bF_size]
    by_cases h2 : k = j
    · subst h2; simp [hj, hk]
    · simp [h2, h j hj (fun e => h2 e.symm)]
  · have h1 : (bF f)[j]? = none := by simp [bF_size]; omega
    have h2 : (bF g)[j]? = none := by simp [bF_size]; omega
    rw [h1, h2, bF_size]
    by_cases h2 : k = j
    · simp [h2, hj]
    · simp [h2]

theorem twice_step (a k : Nat) (hk : 1 ≤ k) : (2 * a) % 2 ^ (k + 1) = (2 * a) % 2 ^ k + (a.testBit (k - 1)).toNat * 2 ^ k := by
  rw [mod_succ]
  obtain ⟨j, rfl⟩ : ∃ j, k = j + 1 := ⟨k - 1, by omega⟩
  rw [Nat.testBit_succ, Nat.mul_div_cancel_left _ (by omega)]
  rfl

/-- One place of a difference. -/
def tAt (a b k : Nat) : Nat := (2 ^ k + a % 2 ^ k - b % 2 ^ k) % 2 ^ k
theorem take_plain (x y u v p c : Nat) (n : Int) (hp : 0 < p) (hx : x < p) (hy : y < p) (hu : u ≤ 1) (hv : v ≤ 1) (hc : c = (decide (x < y)).toNat) (hn : n = (u : Int) - v - c) :
    (p * 2 + (x + u * p) - (y + v * p)) % (p * 2) = (p + x - y) % p + (decide (n = 1 ∨ n = -1)).toNat * p ∧ (x + u * p < y + v * p ↔ n < 0) := by
  have hr : p + x - y = (p + x - y) % p + (1 - c) * p := by
    subst hc
    by_cases h : x < y
    · rw [Nat.mod_eq_of_lt (by omega)]; simp [h]
    · rw [Nat.mod_eq_sub_mod (by omega), Nat.mod_eq_of_lt (by omega)]; simp [h]; omega
  have hr' : (p + x - y) % p < p := Nat.mod_lt _ hp
  have hc1 : c ≤ 1 := by subst hc; cases decide (x < y) <;> simp
  have hc2 : c = 1 ↔ x < y := by subst hc; by_cases h : x < y <;> simp [h]
  generalize (p + x - y) % p = r at *
  clear hc
  have hu' : u = 0 ∨ u = 1 := by omega
  have hv' : v = 0 ∨ v = 1 := by omega
  have hc' : c = 0 ∨ c = 1 := by omega
  rcases hu' with h | h <;> rcases hv' with h' | h' <;> rcases hc' with h'' | h'' <;> subst h <;> subst h' <;> subst h'' <;> simp at hn hr hc2 <;> subst hn <;> simp
  all_goals first
    | (refine ⟨?_, by omega⟩; rw [Nat.mod_eq_of_lt (by omega)]; omega)
    | (refine ⟨?_, by omega⟩; rw [Nat.mod_eq_sub_mod (by omega), Nat.mod_eq_of_lt (by omega)]; omega)
theorem take_step (a b k : Nat) (n : Int) (hn : n = ((a.testBit k).toNat : Int) - (b.testBit k).toNat - (decide (a % 2 ^ k < b % 2 ^ k)).toNat) :
    tAt a b (k + 1) = tAt a b k + (decide (n = 1 ∨ n = -1)).toNat * 2 ^ k ∧ decide (a % 2 ^ (k + 1) < b % 2 ^ (k + 1)) = decide (n < 0) := by
  unfold tAt
  rw [mod_succ a, mod_succ b, Nat.pow_succ]
  have h := take_plain (a % 2 ^ k) (b % 2 ^ k) (a.testBit k).toNat (b.testBit k).toNat (2 ^ k) _ n (Nat.two_pow_pos k) (Nat.mod_lt _ (Nat.two_pow_pos k)) (Nat.mod_lt _ (Nat.two_pow_pos k))
    (by cases a.testBit k <;> simp) (by cases b.testBit k <;> simp) rfl hn
  rw [h.1]
  exact ⟨rfl, by simp only [h.2]⟩
theorem take_end (a b : Nat) (ha : a < 2 ^ 256) (hb : b ≤ a) : tAt a b 256 = a - b := by
  unfold tAt
  rw [Nat.mod_eq_of_lt ha, Nat.mod_eq_of_lt (Nat.lt_of_le_of_lt hb ha)]
  generalize 2 ^ 256 = p at *
  rw [Nat.mod_eq_sub_mod (by omega), Nat.mod_eq_of_lt (by omega)]; omega

theorem div_succ (a k : Nat) : a / 2 ^ k = 2 * (a / 2 ^ (k + 1)) + (a.testBit k).toNat := by
  rw [Nat.pow_succ, ← Nat.div_div_eq_div_mul, Nat.testBit_eq_decide_div_mod_eq]
  generalize a / 2 ^ k = q
  by_cases h : q % 2 = 1
  · simp [h]; omega
  · simp [h]; omega
theorem less_stop (a b k : Nat) (h : a / 2 ^ (k + 1) = b / 2 ^ (k + 1)) (hne : a.testBit k ≠ b.testBit k) : decide (a < b) = b.testBit k := by
  have h1 := div_succ a k
  have h2 := div_succ b k
  rw [h] at h1
  generalize b / 2 ^ (k + 1) = q at h1 h2
  have h3 : ∀ x y : Nat, x / 2 ^ k < y / 2 ^ k → x < y := fun x y hxy => by
    rcases Nat.lt_or_ge x y with h | h
    · exact h
    · exact absurd (Nat.div_le_div_right (c := 2 ^ k) h) (by omega)
  cases hb : b.testBit k <;> cases ha : a.testBit k <;> simp [ha, hb] at h1 h2 hne ⊢
  · have := h3 b a (by omega); omega
  · exact h3 a b (by omega)
theorem less_go (a b k : Nat) (h : a / 2 ^ (k + 1) = b / 2 ^ (k + 1)) (he : a.testBit k = b.testBit k) : a / 2 ^ k = b / 2 ^ k := by
  rw [div_succ a, div_succ b, h, he]

theorem prod_step (a m k : Nat) : a * (m / 2 ^ k) = 2 * (a * (m / 2 ^ (k + 1))) + (if m.testBit k then a else 0) := by
  rw [div_succ m k, Nat.mul_add, ← Nat.mul_assoc, Nat.mul_comm a 2, Nat.mul_assoc]
  cases m.testBit k <;> simp
theorem bit_tmod (m j : Nat) : (((m : Int) / 2 ^ j).tmod 2 == 1) = m.testBit j := by
  rw [Nat.testBit_eq_decide_div_mod_eq]
  have e : (m : Int) / 2 ^ j = ((m / 2 ^ j : Nat) : Int) := by simp
  rw [e, Int.tmod_eq_emod_of_nonneg (Int.natCast_nonneg _), Bool.eq_iff_iff]
  generalize m / 2 ^ j = z
  simp only [beq_iff_eq, decide_eq_true_eq]
  omega
theorem bA_set0 (m : Nat) (v : Bool) : (bA (2 * m)).setIfInBounds 0 (.bool v) = bA (2 * m + v.toNat) := by
  rw [bA_bF, bA_bF]
  refine bF_set _ _ 0 v ?_ fun j _ hj => ?_
  · rw [Nat.testBit_zero]; cases v <;> simp
  · obtain ⟨i, rfl⟩ : ∃ i, j = i + 1 := ⟨j - 1, by omega⟩
    rw [Nat.testBit_succ, Nat.testBit_succ]
    congr 1
    cases v <;> simp; omega
theorem bA_set_hi (q k : Nat) : (bA (q * 2 ^ (k + 1))).setIfInBounds k (.bool true) = bA ((2 * q + 1) * 2 ^ k) := by
  rw [bA_bF, bA_bF]
  have e1 : (2 * q + 1) * 2 ^ k = 2 ^ (k + 1) * q + 2 ^ k := by rw [Nat.pow_succ, Nat.add_mul, Nat.one_mul, Nat.mul_comm (2 ^ k) 2, Nat.mul_assoc, Nat.mul_assoc, Nat.mul_comm q]
  rw [e1]
  have hlt : 2 ^ k < 2 ^ (k + 1) := Nat.pow_lt_pow_right (by omega) (by omega)
  refine bF_set _ _ k true ?_ fun j _ hj => ?_
  · rw [Nat.testBit_two_pow_mul_add _ hlt]; simp
  · rw [Nat.testBit_two_pow_mul_add _ hlt, Nat.mul_comm q, Nat.testBit_two_pow_mul]
    by_cases h : j < k + 1
    · have h1 : ¬ k = j := fun e => hj e.symm
      have h2 : ¬ j ≥ k + 1 := by omega
      simp only [h, if_true, Nat.testBit_two_pow, h1, h2, decide_false, Bool.false_and]
    · have h2 : j ≥ k + 1 := by omega
      simp only [h, if_false, h2, decide_true, Bool.true_and]
theorem quot_step (a d k : Nat) (hd : 0 < d) :
    (if 2 * (a / 2 ^ (k + 1) % d) + (a.testBit k).toNat < d then a / 2 ^ k % d = 2 * (a / 2 ^ (k + 1) % d) + (a.testBit k).toNat ∧ a / 2 ^ k / d = 2 * (a / 2 ^ (k + 1) / d)
      else a / 2 ^ k % d = 2 * (a / 2 ^ (k + 1) % d) + (a.testBit k).toNat - d ∧ a / 2 ^ k / d = 2 * (a / 2 ^ (k + 1) / d) + 1) := by
  rw [div_succ a k]
  have h1 := Nat.div_add_mod (a / 2 ^ (k + 1)) d
  have h2 := Nat.mod_lt (a / 2 ^ (k + 1)) hd
  generalize a / 2 ^ (k + 1) = A at *
  have hx : (a.testBit k).toNat ≤ 1 := by cases a.testBit k <;> simp
  generalize (a.testBit k).toNat = x at *
  generalize A % d = r at *
  generalize A / d = q at *
  subst h1
  split
  · rename_i h
    have e : 2 * (d * q + r) + x = d * (2 * q) + (2 * r + x) := by rw [Nat.mul_add, ← Nat.mul_assoc, ← Nat.mul_assoc, Nat.mul_comm 2 d]; omega
    rw [e]
    exact ⟨by rw [Nat.mul_add_mod, Nat.mod_eq_of_lt h], by rw [Nat.mul_add_div hd, Nat.div_eq_of_lt h]; rfl⟩
  · rename_i h
    have e : 2 * (d * q + r) + x = d * (2 * q + 1) + (2 * r + x - d) := by rw [Nat.mul_add, ← Nat.mul_assoc, Nat.mul_add, ← Nat.mul_assoc, Nat.mul_comm 2 d, Nat.mul_one]; generalize d * 2 * q = z; omega
    have h' : 2 * r + x - d < d := by omega
    rw [e]
    exact ⟨by rw [Nat.mul_add_mod, Nat.mod_eq_of_lt h'], by rw [Nat.mul_add_div hd, Nat.div_eq_of_lt h']⟩
end Go.Proofs.Ytpjdojnbajoafaa
