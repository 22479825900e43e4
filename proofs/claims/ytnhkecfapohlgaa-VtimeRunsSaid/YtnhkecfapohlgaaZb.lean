/- Texts of this proof, one behind the other. -/
import Derived.Test.YtnhkecfapohlgaaZa
import Derived.BigRegion
import Derived.BigQuiet
import Derived.Deep.QuietTactic
import Derived.Test.YtnhkecfapohlgaaProg
import Derived.KernelRfl
import Derived.Deep.WholeRow
import Derived.Laws.CopyOwn
import Derived.WalkSmall
import Derived.ChangeKeysEq
import Derived.StillTailTactics
import Derived.Lib.OthersKept
import Derived.Laws.RangeAny
import Derived.Lib.Tables
/-! The small functions of package wide: their contracts, whatever the world. -/
namespace Go.Proofs.Ytnhkecfapohlgaa
open Go.RowKit

/-- One part of 32 bits of a number. -/
@[irreducible] def dg (n i : Nat) : Nat := n / 2 ^ (32 * i) % 2 ^ 32
/-- A number's seven parts. -/
def qA (n : Nat) : Array Value := Array.ofFn (n := 7) fun i => .int .u64 (dg n i.val)
theorem qA_lit (n : Nat) : qA n = #[.int .u64 (dg n 0), .int .u64 (dg n 1), .int .u64 (dg n 2), .int .u64 (dg n 3), .int .u64 (dg n 4), .int .u64 (dg n 5), .int .u64 (dg n 6)] := by
  simp [qA, Array.ofFn_succ]
theorem qA_size (n : Nat) : (qA n).size = 7 := by simp [qA]
theorem qA_get (n k : Nat) (h : k < 7) : (qA n)[k]? = some (.int .u64 (dg n k)) := by simp [qA, h]
theorem qA_set (n m k : Nat) (v : Int) (hv : (dg m k : Int) = v) (h : ∀ j, j < 7 → j ≠ k → dg m j = dg n j) : (qA n).setIfInBounds k (.int .u64 v) = qA m := by
  apply Array.ext_getElem?
  intro j
  rw [Array.getElem?_setIfInBounds]
  by_cases hj : j < 7
  · rw [qA_get _ _ hj, qA_get _ _ hj, qA_size]
    by_cases h2 : k = j
    · subst h2; simp [hj, hv]
    · simp [h2, h j hj (fun e => h2 e.symm)]
  · have h1 : (qA n)[j]? = none := by simp [qA_size]; omega
    have h2 : (qA m)[j]? = none := by simp [qA_size]; omega
    rw [h1, h2, qA_size]
    by_cases h2 : k = j
    · simp [h2, hj]
    · simp [h2]

theorem wOf_any (n : Int) (w : World) :
    Calls Try.prog 43 #[.int .u64 n] w fun e w' => e = .returned (.agg #[.int .u64 0, .int .u64 n]) ∧ Below w.heap.size w w' := by
  go_enter Try.func43, Try.ntmps43
  go_wp2
  exact bodyPost_ret (v := .agg #[.int .u64 0, .int .u64 n]) (by simp [results, Try.results43, go_sem]) rfl ⟨rfl, (Below.refl _ _).alloc (Nat.le_refl _) _⟩

theorem and32 (x : Nat) (h : x < 2 ^ 64) : bits BinOp.and IntKind.u64 (x : Int) 4294967295 = ((x % 2 ^ 32 : Nat) : Int) := by
  have := bits_and_u64_nat x 4294967295 (by omega) (by omega)
  rw [show ((4294967295 : Nat) : Int) = 4294967295 from rfl] at this
  rw [this, show (4294967295 : Nat) = 2 ^ 32 - 1 from rfl, Nat.and_two_pow_sub_one_eq_mod]

theorem of_dg (h l n : Nat) (hh : h < 2 ^ 64) (hl : l < 2 ^ 64) (hn : h * 2 ^ 64 + l = n) :
    (#[.int .u64 ((l % 2 ^ 32 : Nat) : Int), .int .u64 ((l / 2 ^ 32 : Nat) : Int), .int .u64 ((h % 2 ^ 32 : Nat) : Int), .int .u64 ((h / 2 ^ 32 : Nat) : Int), .int .u64 0, .int .u64 0, .int .u64 0] : Array Value) = qA n := by
  subst hn
  rw [qA_lit]
  unfold dg
  simp only [Nat.mul_zero, Nat.reduceMul, Nat.reducePow]
  congr 1
  simp only [List.cons.injEq, Value.int.injEq, true_and, and_true]
  omega

set_option maxRecDepth 100000 in
theorem wof_any (h l n : Nat) (w : World) (hh : h < 2 ^ 64) (hl : l < 2 ^ 64) (hn : h * 2 ^ 64 + l = n) :
    Calls Try.prog 89 #[.agg #[.int .u64 h, .int .u64 l]] w fun e w' => e = .returned (.agg (qA n)) ∧ Below w.heap.size w w' := by
  have e1 := and32 l hl
  have e2 := and32 h hh
  have e3 : (l : Int) / 4294967296 = ((l / 2 ^ 32 : Nat) : Int) := by omega
  have e4 : (h : Int) / 4294967296 = ((h / 2 ^ 32 : Nat) : Int) := by omega
  have HE := Lib.hid (of_dg h l n hh hl hn)
  generalize l % 2 ^ 32 = a at *
  generalize l / 2 ^ 32 = b at *
  generalize h % 2 ^ 32 = c at *
  generalize h / 2 ^ 32 = d at *
  clear hh hl hn
  go_enter Try.func89, Try.ntmps89
  go_wp2
  refine bodyPost_ret (v := .agg (qA n)) (by rw [← HE.out]; simp [results, Try.results89, go_sem]) rfl ⟨rfl, ((Below.refl _ _).alloc (Nat.le_refl _) _).alloc (by simp) _⟩

theorem or32 (a b : Nat) (ha : a < 2 ^ 32) (hb : b < 2 ^ 32) : bits BinOp.or IntKind.u64 (IntKind.u64.wrap ((a : Int) * 4294967296)) (b : Int) = ((a * 2 ^ 32 + b : Nat) : Int) := by
  have e : IntKind.u64.wrap ((a : Int) * 4294967296) = ((a * 2 ^ 32 : Nat) : Int) := by rw [IntKind.wrap_u64]; omega
  rw [e, bits_or_u64_nat _ _ (by omega) (by omega), nat_join 32 _ _ (by omega) hb]
theorem dg_lt (n i : Nat) : dg n i < 2 ^ 32 := by unfold dg; exact Nat.mod_lt _ (by decide)
theorem dg_low (n : Nat) : (dg n 3 * 2 ^ 32 + dg n 2) * 2 ^ 64 + (dg n 1 * 2 ^ 32 + dg n 0) = n % 2 ^ 128 := by
  unfold dg; simp only [Nat.mul_zero, Nat.reduceMul, Nat.reducePow]; omega
/-- Whether a number has no more than 128 bits. -/
def few (n : Nat) : Bool := decide (n < 2 ^ 128)
theorem dg_high (n : Nat) (hn : n < 2 ^ 224) : few n = (decide (dg n 4 = 0) && decide (dg n 5 = 0) && decide (dg n 6 = 0)) := by
  unfold dg few; simp only [Nat.reduceMul, Nat.reducePow] at *
  rw [Bool.eq_iff_iff]; simp only [Bool.and_eq_true, decide_eq_true_eq]; omega

/-- Three parts are 0. -/
def nought (q4 q5 q6 : Nat) : Bool := decide (q4 = 0) && decide (q5 = 0) && decide (q6 = 0)

set_option maxRecDepth 100000 in
set_option maxHeartbeats 1000000 in
theorem qwide_aux (q0 q1 q2 q3 q4 q5 q6 h l : Nat) (w : World) (e1 : bits BinOp.or IntKind.u64 (IntKind.u64.wrap ((q3 : Int) * 4294967296)) (q2 : Int) = (h : Int)) (e2 : bits BinOp.or IntKind.u64 (IntKind.u64.wrap ((q1 : Int) * 4294967296)) (q0 : Int) = (l : Int)) :
    Calls Try.prog 91 #[.agg #[.int .u64 q0, .int .u64 q1, .int .u64 q2, .int .u64 q3, .int .u64 q4, .int .u64 q5, .int .u64 q6]] w fun e w' =>
      e = .returned (.tuple #[.agg #[.int .u64 h, .int .u64 l], .bool (nought q4 q5 q6)]) ∧ Below w.heap.size w w' := by
  by_cases z4 : q4 = 0
  · have t4 : ((q4 : Int) == 0) = true := by rw [z4]; rfl
    by_cases z5 : q5 = 0
    · have t5 : ((q5 : Int) == 0) = true := by rw [z5]; rfl
      obtain ⟨b, hb⟩ : ∃ b, ((q6 : Int) == 0) = b := ⟨_, rfl⟩
      have HF := Lib.hid (show nought q4 q5 q6 = b by unfold nought; rw [decide_eq_true z4, decide_eq_true z5, Bool.true_and, Bool.true_and, ← hb, Bool.eq_iff_iff]; simp)
      clear z4 z5
      go_enter Try.func91, Try.ntmps91
      go_wp2
      go_region
      go_wp2
      exact bodyPost_ret (v := .tuple #[.agg #[.int .u64 h, .int .u64 l], .bool b]) (by simp [results, Try.results91, go_sem]) rfl ⟨by rw [HF.out], (((Below.refl _ _).alloc (Nat.le_refl _) _).alloc (by simp) _).drew⟩
    · have t5 : ((q5 : Int) == 0) = false := by simpa using z5
      have HF := Lib.hid (show nought q4 q5 q6 = false by unfold nought; rw [decide_eq_false z5, Bool.and_false, Bool.false_and])
      clear z4 z5
      go_enter Try.func91, Try.ntmps91
      go_wp2
      go_region
      go_wp2
      exact bodyPost_ret (v := .tuple #[.agg #[.int .u64 h, .int .u64 l], .bool false]) (by simp [results, Try.results91, go_sem]) rfl ⟨by rw [HF.out], (((Below.refl _ _).alloc (Nat.le_refl _) _).alloc (by simp) _).drew⟩
  · have t4 : ((q4 : Int) == 0) = false := by simpa using z4
    have HF := Lib.hid (show nought q4 q5 q6 = false by unfold nought; rw [decide_eq_false z4, Bool.false_and, Bool.false_and])
    clear z4
    go_enter Try.func91, Try.ntmps91
    go_wp2
    go_region
    go_wp2
    exact bodyPost_ret (v := .tuple #[.agg #[.int .u64 h, .int .u64 l], .bool false]) (by simp [results, Try.results91, go_sem]) rfl ⟨by rw [HF.out], (((Below.refl _ _).alloc (Nat.le_refl _) _).alloc (by simp) _).drew⟩

theorem two32 (a b : Nat) (ha : a < 2 ^ 32) (hb : b < 2 ^ 32) : a * 2 ^ 32 + b < 2 ^ 64 := by omega
theorem qwide_any (n : Nat) (w : World) (hn : n < 2 ^ 224) :
    Calls Try.prog 91 #[.agg (qA n)] w fun e w' => ∃ h l : Nat, e = .returned (.tuple #[.agg #[.int .u64 h, .int .u64 l], .bool (few n)]) ∧ h < 2 ^ 64 ∧ l < 2 ^ 64 ∧ h * 2 ^ 64 + l = n % 2 ^ 128 ∧ Below w.heap.size w w' := by
  rw [qA_lit]
  refine (qwide_aux (dg n 0) (dg n 1) (dg n 2) (dg n 3) (dg n 4) (dg n 5) (dg n 6) _ _ w (or32 _ _ (dg_lt n 3) (dg_lt n 2)) (or32 _ _ (dg_lt n 1) (dg_lt n 0))).mono ?_
  rintro e w' ⟨rfl, hb⟩
  exact ⟨_, _, by rw [dg_high n hn]; rfl, two32 _ _ (dg_lt n 3) (dg_lt n 2), two32 _ _ (dg_lt n 1) (dg_lt n 0), dg_low n, hb⟩

end Go.Proofs.Ytnhkecfapohlgaa

/-! package wide's quotient on seven parts: its contract, whatever the world. -/
namespace Go.Proofs.Ytnhkecfapohlgaa
open Go.RowKit

theorem quart_info : (Try.prog.info? 126).map (fun i => (i.zero, i.size)) = some (some (.agg #[.int .u64 0, .int .u64 0, .int .u64 0, .int .u64 0, .int .u64 0, .int .u64 0, .int .u64 0]), 7) := by kernel_rfl
theorem zero_of_info' {P : Program} {t : TypeId} {v : Value} {n : Nat} (h : (P.info? t).map (fun i => (i.zero, i.size)) = some (some v, n)) (w : World) : (zeroValue t).run P w = .ok v w := by
  cases hq : P.info? t with
  | none => simp [hq] at h
  | some i => simp [hq] at h; simp [zeroValue, typeInfo, hq, h.1]
theorem setCell_drewN (w : World) (n : Nat) (p : Addr) (v : Value) : (w.drewN n).setCell p v = (w.setCell p v).drewN n := rfl
theorem qA_at (n k : Nat) (h : k < (qA n).size) : (qA n)[k] = .int .u64 (dg n k) := by simp [qA]
theorem qA_zero : qA 0 = #[.int .u64 0, .int .u64 0, .int .u64 0, .int .u64 0, .int .u64 0, .int .u64 0, .int .u64 0] := by
  rw [qA_lit]; unfold dg; simp

theorem quart_size (n : Nat) : (Try.prog.info? 126).map (·.size) = some (qA n).size := by
  rw [qA_size]
  have := quart_info
  cases hq : Try.prog.info? 126 with
  | none => simp [hq] at this
  | some i => simp [hq] at this ⊢; exact this.2
theorem qA_oneCell (n : Nat) : (qA n).all (·.oneCell') = true := by rw [qA_lit]; simp [Value.oneCell']
/-- Block g of w holds a number's parts. -/
@[reducible] def IsQ (w : World) (g n : Nat) : Prop := IsR w g (qA n) 126
section
variable {ops : Array Oper} {rest : List Oper} {o : Oper} {a : Act} {w : World} {Q : Exit → Act → World → Prop}
theorem wpQ_store (hgd : o.guard = none) (x y : Operand) (ho : o.op = .store 126 x y) (g : Nat) (hx : a.eval x = .pointer (some ⟨g, 0, none⟩)) (n m : Nat) (hy : a.eval y = .agg (qA n))
    (hg : IsQ w g m) (hK : ∀ w1 : World, Put g (qA n) 126 w w1 → wpList Try.prog ops Q rest (a.put o.dst undef) w1) : wpList Try.prog ops Q (o :: rest) a w :=
  wpR_store hgd _ x y ho g hx _ _ hy _ hg (quart_size n) (by rw [qA_size, qA_size]) (qA_oneCell n) hK
theorem wpQ_load (hgd : o.guard = none) (x : Operand) (ho : o.op = .load 126 x) (g : Nat) (hx : a.eval x = .pointer (some ⟨g, 0, none⟩)) (n : Nat)
    (hg : IsQ w g n) (hK : wpList Try.prog ops Q rest (a.put o.dst (.agg (qA n))) w) : wpList Try.prog ops Q (o :: rest) a w :=
  wpList_load_row hgd _ x ho g hx _ _ _ _ hg Try.underlying126 rfl (quart_size n) hK
variable {fn : Func} {R : Ending → World → Prop} {tmps : Array Value} {p q r : Tmp} {g n : Nat}
theorem retQ (hf : fn.results = #[.cell p 126]) (hp : tmps.getD p undef = .pointer (some ⟨g, 0, none⟩)) (hg : IsQ w g n) (hR : R (.returned (.agg (qA n))) w) :
    bodyPost Try.prog fn R .ret { tmps, defers := [] } w := ret_row hf hp hg Try.underlying126 rfl (quart_size n) hR
theorem retQ1 (hf : fn.results = #[.cell p 126, .tmp q]) (hp : tmps.getD p undef = .pointer (some ⟨g, 0, none⟩)) (v : Value) (hq : tmps.getD q undef = v) (hg : IsQ w g n)
    (hR : R (.returned (.tuple #[.agg (qA n), v])) w) : bodyPost Try.prog fn R .ret { tmps, defers := [] } w := ret_row_tmp hf hp v hq hg Try.underlying126 rfl (quart_size n) hR
end

/-- The quotient's digits, set at one place. -/
theorem over_set (q i b : Nat) (_hi : i < 7) (hb : b < 32) :
    dg ((2 * q + 1) * 2 ^ (32 * i + b)) i = dg (q * 2 ^ (32 * i + b + 1)) i + 2 ^ b ∧ dg (q * 2 ^ (32 * i + b + 1)) i % 2 ^ (b + 1) = 0 ∧
      ∀ j, j ≠ i → dg ((2 * q + 1) * 2 ^ (32 * i + b)) j = dg (q * 2 ^ (32 * i + b + 1)) j := by
  have e1 : (2 * q + 1) * 2 ^ (32 * i + b) = ((2 * q + 1) * 2 ^ b) * 2 ^ (32 * i) := by rw [Nat.pow_add, Nat.mul_comm (2 ^ (32 * i)), Nat.mul_assoc]
  have e2 : q * 2 ^ (32 * i + b + 1) = (q * 2 ^ (b + 1)) * 2 ^ (32 * i) := by rw [Nat.add_assoc, Nat.pow_add, Nat.mul_comm (2 ^ (32 * i)), Nat.mul_assoc]
  have e3 : 2 ^ 32 = 2 ^ (b + 1) * 2 ^ (31 - b) := by rw [← Nat.pow_add]; congr 1; omega
  have d1 : dg (q * 2 ^ (32 * i + b + 1)) i = (q % 2 ^ (31 - b)) * 2 ^ (b + 1) := by
    unfold dg
    rw [e2, Nat.mul_div_cancel _ (Nat.two_pow_pos _), e3, Nat.mul_comm q, Nat.mul_mod_mul_left, Nat.mul_comm]
  have hp := Nat.two_pow_pos b
  have e4 : (2 * q + 1) * 2 ^ b = 2 ^ (b + 1) * q + 2 ^ b := by rw [Nat.pow_succ, Nat.add_mul, Nat.one_mul, Nat.mul_comm (2 ^ b) 2, Nat.mul_assoc, Nat.mul_assoc, Nat.mul_comm q]
  refine ⟨?_, ?_, fun j hj => ?_⟩
  · rw [d1]
    unfold dg
    rw [e1, Nat.mul_div_cancel _ (Nat.two_pow_pos _), e4, e3, Nat.mod_mul, Nat.mul_add_mod, Nat.mod_eq_of_lt (show 2 ^ b < 2 ^ (b + 1) by rw [Nat.pow_succ]; omega), Nat.mul_add_div (Nat.two_pow_pos _),
      Nat.div_eq_of_lt (show 2 ^ b < 2 ^ (b + 1) by rw [Nat.pow_succ]; omega), Nat.add_zero, Nat.mul_comm (2 ^ (b + 1)), Nat.add_comm]
    rfl
  · rw [d1]; exact Nat.mul_mod_left _ _
  · unfold dg
    rcases Nat.lt_or_ge j i with h | h
    · have z : ∀ x, x * 2 ^ (32 * i) / 2 ^ (32 * j) % 2 ^ 32 = 0 := fun x => by
        have : 2 ^ (32 * i) = 2 ^ (32 * (i - j - 1)) * 2 ^ 32 * 2 ^ (32 * j) := by rw [← Nat.pow_add, ← Nat.pow_add]; congr 1; omega
        rw [this, ← Nat.mul_assoc, Nat.mul_div_cancel _ (Nat.two_pow_pos _), ← Nat.mul_assoc]; exact Nat.mul_mod_left _ _
      rw [e1, e2, z, z]
    · have h' : i < j := by omega
      have z : 2 ^ (32 * j) = 2 ^ (32 * i) * (2 ^ (b + 1) * 2 ^ (32 * (j - i) - (b + 1))) := by rw [← Nat.pow_add, ← Nat.pow_add]; congr 1; omega
      rw [e1, e2, z, Nat.mul_comm _ (2 ^ (32 * i)), Nat.mul_comm _ (2 ^ (32 * i)), Nat.mul_div_mul_left _ _ (Nat.two_pow_pos _), Nat.mul_div_mul_left _ _ (Nat.two_pow_pos _), ← Nat.div_div_eq_div_mul, ← Nat.div_div_eq_div_mul, e4,
        Nat.mul_add_div (Nat.two_pow_pos _), Nat.div_eq_of_lt (show 2 ^ b < 2 ^ (b + 1) by rw [Nat.pow_succ]; omega), Nat.add_zero, Nat.mul_div_cancel _ (Nat.two_pow_pos _)]

theorem over_or (r x y b : Nat) (_hr : r < 2 ^ 64) (hy : y < 2 ^ 32) (hx : x = y / 2 ^ b % 2) :
    bits BinOp.or IntKind.u64 (IntKind.u64.wrap ((r : Int) * 2)) (bits BinOp.and IntKind.u64 ((y : Int) / 2 ^ b) 1) = (((2 * r + x) % 2 ^ 64 : Nat) : Int) := by
  have h1 : (y : Int) / 2 ^ b = ((y / 2 ^ b : Nat) : Int) := by simp
  have h2 : y / 2 ^ b < 2 ^ 64 := Nat.lt_of_le_of_lt (Nat.div_le_self _ _) (by omega)
  rw [h1, show (1 : Int) = ((1 : Nat) : Int) from rfl, bits_and_u64_nat _ _ h2 (by decide), nat_mask1, ← hx]
  have h3 : IntKind.u64.wrap ((r : Int) * 2) = ((2 * r % 2 ^ 64 : Nat) : Int) := by rw [IntKind.wrap_u64]; omega
  have h4 : x < 2 := by subst hx; exact Nat.mod_lt _ (by decide)
  rw [h3, bits_or_u64_nat _ _ (by omega) (by omega), nat_join 1 _ _ (by omega) (by omega)]
  congr 1
  omega
theorem over_bor (y b : Nat) (hb : b < 32) (hy : y < 2 ^ 32) (h0 : y % 2 ^ (b + 1) = 0) : bits BinOp.or IntKind.u64 (y : Int) (IntKind.u64.wrap (2 ^ b)) = ((y + 2 ^ b : Nat) : Int) := by
  have hp : 2 ^ b < 2 ^ 32 := Nat.pow_lt_pow_right (by decide) hb
  have e : IntKind.u64.wrap (2 ^ b) = ((2 ^ b : Nat) : Int) := by
    rw [IntKind.wrap_u64]
    have : ((2 ^ b : Nat) : Int) = (2 : Int) ^ b := by simp
    omega
  rw [e, bits_or_u64_nat _ _ (by omega) (by omega), nat_join (b + 1) _ _ h0 (Nat.pow_lt_pow_right (by decide) (by omega))]
theorem over_bit (n i b : Nat) (hb : b < 32) : dg n i / 2 ^ b % 2 = (n.testBit (32 * i + b)).toNat := by
  have h : (dg n i).testBit b = n.testBit (32 * i + b) := by
    unfold dg
    rw [Nat.testBit_mod_two_pow, Nat.testBit_div_two_pow]
    simp [hb, Nat.add_comm]
  rw [← h, Nat.testBit_eq_decide_div_mod_eq]
  have : dg n i / 2 ^ b % 2 < 2 := Nat.mod_lt _ (by decide)
  by_cases h1 : dg n i / 2 ^ b % 2 = 1
  · simp [h1]
  · simp [h1]; omega

set_option maxRecDepth 100000 in
set_option maxHeartbeats 1000000 in
theorem over_any (n d : Nat) (w : World) (hn : n < 2 ^ 224) (hd0 : 0 < d) (hd : d < 2 ^ 64) :
    Calls Try.prog 92 #[.agg (qA n), .int .u64 d] w fun e w' => e = .returned (.tuple #[.agg (qA (n / d)), .int .u64 (n % d : Nat)]) ∧ Below w.heap.size w w' := by
  have hz : ∀ w, (zeroValue 126).run Try.prog w = .ok (.agg (qA 0)) w := fun w => by
    rw [qA_zero]
    exact (zero_of_info' quart_info) w
  have H0 := Lib.hid (show n / 2 ^ 224 = 0 from Nat.div_eq_of_lt hn)
  have HD := Lib.hid hd
  have HD0 := Lib.hid hd0
  clear hn hd hd0
  go_enter Try.func92, Try.ntmps92
  go_wp2_with fail
  go_loopw [7, 8] (fun rest i wr => ∃ k c : Nat, k ≤ 7 ∧ i = .int .i64 ((k : Int) - 1) ∧ rest = .int .u64 ((n / 2 ^ (32 * k) % d : Nat) : Int) ∧
      wr = (((w.alloc (Obj.cells (qA n) 126)).alloc (Obj.cells (qA 0) 126)).alloc (Obj.cells (qA (n / 2 ^ (32 * k) / d * 2 ^ (32 * k))) 126)).drewN c)
    (fun _ i _ => (intOf i + 1).toNat)
  case atStart => exact ⟨7, 0, by omega, rfl, by rw [H0.out, Nat.zero_mod]; rfl, by rw [H0.out, Nat.zero_div, Nat.zero_mul]; rfl⟩
  case round =>
    obtain ⟨k, c, hk, rfl, rfl, rfl⟩ := hrel
    by_cases hlt : 1 ≤ k
    · obtain ⟨i, rfl⟩ : ∃ i, k = i + 1 := ⟨k - 1, by omega⟩
      have e : (((i + 1 : Nat) : Int) - 1) = (i : Int) := by omega
      rw [e]
      clear e
      have hi : (i : Int) < 7 := by omega
      obtain ⟨wo, hwo⟩ : ∃ wo : World, wo = (((w.alloc (Obj.cells (qA n) 126)).alloc (Obj.cells (qA 0) 126)).alloc (Obj.cells (qA (n / 2 ^ (32 * (i + 1)) / d * 2 ^ (32 * (i + 1)))) 126)).drewN c := ⟨_, rfl⟩
      have Hwo := Lib.hid hwo
      rw [← hwo]
      clear hwo
      go_wp2_with fail
      go_loopw [7, 9] (fun rest bi wr => ∃ k c : Nat, k ≤ 32 ∧ bi = .int .i64 ((k : Int) - 1) ∧ rest = .int .u64 ((n / 2 ^ (32 * i + k) % d : Nat) : Int) ∧
          wr = (((w.alloc (Obj.cells (qA n) 126)).alloc (Obj.cells (qA 0) 126)).alloc (Obj.cells (qA (n / 2 ^ (32 * i + k) / d * 2 ^ (32 * i + k))) 126)).drewN c)
        (fun _ bi _ => (intOf bi + 1).toNat)
      case atStart => exact ⟨32, c, by omega, rfl, rfl, Hwo.out⟩
      case round =>
        clear Hwo
        obtain ⟨k, c, hk2, rfl, rfl, rfl⟩ := hrel
        by_cases hlt2 : 1 ≤ k
        · obtain ⟨b, rfl⟩ : ∃ b, k = b + 1 := ⟨k - 1, by omega⟩
          have e : (((b + 1 : Nat) : Int) - 1) = (b : Int) := by omega
          rw [e]
          clear e
          have hb : (b : Int) < 32 := by omega
          have hi7 : i < 7 := by omega
          have hcell := qA_get n i hi7
          have hsz := qA_size (n / 2 ^ (32 * i + (b + 1)) / d * 2 ^ (32 * i + (b + 1)))
          have ho := qA_at (n / 2 ^ (32 * i + (b + 1)) / d * 2 ^ (32 * i + (b + 1))) i (by rw [hsz]; exact hi7)
          have hq := quot_step n d (32 * i + b) HD0.out
          rw [Nat.add_assoc] at hq
          have hrd := Nat.mod_lt (n / 2 ^ (32 * i + (b + 1))) HD0.out
          generalize n / 2 ^ (32 * i + (b + 1)) % d = r at hq hrd ⊢
          generalize n / 2 ^ (32 * i + (b + 1)) / d = q at hq hsz ho ⊢
          have hbit := over_bit n i b (by omega)
          have hx1 := Bool.toNat_le (n.testBit (32 * i + b))
          have hO := over_or r _ (dg n i) b (by have := HD.out; omega) (dg_lt n i) hbit.symm
          clear hbit
          generalize (n.testBit (32 * i + b)).toNat = x at hq hx1 hO
          obtain ⟨s1, s2, s3⟩ := over_set q i b hi7 (by omega)
          rw [Nat.add_assoc] at s1 s2 s3
          have HS := Lib.hid (qA_set _ _ i _ rfl (fun j _ hj => s3 j hj))
          have hW := over_bor (dg (q * 2 ^ (32 * i + (b + 1))) i) b (by omega) (dg_lt _ _) s2
          rw [← s1] at hW
          have hd64 := HD.out
          have hr64 : 2 * r + x < 2 * d := by omega
          clear s1 s2 s3
          by_cases hA : 2 * r + x < d
          · rw [if_pos hA] at hq
            have hT : ((r : Int) / 9223372036854775808 == 1) = false := by rw [beq_eq_false_iff_ne]; omega
            have e1 : (2 * r + x) % 2 ^ 64 = 2 * r + x := Nat.mod_eq_of_lt (by omega)
            rw [e1] at hO
            have HQ := Lib.hid hq
            have hA' : ((2 * r + x : Nat) : Int) < (d : Int) := by omega
            clear hq e1 hd64 hr64 hA HS hrd hW
            generalize 2 * r + x = r1 at hO HQ hA'
            go_wp2_with fail
            exact ⟨⟨b, c, by omega, rfl, by rw [HQ.out.1], by rw [HQ.out.2, show q * 2 ^ (32 * i + (b + 1)) = 2 * q * 2 ^ (32 * i + b) by rw [← Nat.add_assoc, Nat.pow_succ, Nat.mul_comm 2 q, Nat.mul_assoc, Nat.mul_comm 2]]⟩, by simp [intOf]⟩
          · rw [if_neg hA] at hq
            have hsub : IntKind.u64.wrap ((((2 * r + x) % 2 ^ 64 : Nat) : Int) - (d : Int)) = ((2 * r + x - d : Nat) : Int) := by rw [IntKind.wrap_u64]; omega
            have HQ := Lib.hid hq
            by_cases hT : 2 ^ 63 ≤ r
            · have hT' : ((r : Int) / 9223372036854775808 == 1) = true := by rw [beq_iff_eq]; omega
              clear hq hd64 hr64 hrd hT hA
              generalize (2 * r + x) % 2 ^ 64 = r1 at hO hsub
              generalize 2 * r + x - d = r2 at hsub HQ
              go_wp2_with fail
              go_region
              go_wp2_with fail
              refine ⟨⟨b, c + 1, by omega, rfl, by rw [HQ.out.1], ?_⟩, by simp [intOf]⟩
              rw [HQ.out.2, setCell_drewN, World.setCell_alloc_at _ _ _ _ _ (by simp), HS.out]
            · have hT' : ((r : Int) / 9223372036854775808 == 1) = false := by rw [beq_eq_false_iff_ne]; omega
              have hge : (d : Int) ≤ (((2 * r + x) % 2 ^ 64 : Nat) : Int) := by omega
              clear hq hd64 hr64 hrd hT hA
              generalize (2 * r + x) % 2 ^ 64 = r1 at hO hsub hge
              generalize 2 * r + x - d = r2 at hsub HQ
              go_wp2_with fail
              go_region
              go_wp2_with fail
              refine ⟨⟨b, c + 1, by omega, rfl, by rw [HQ.out.1], ?_⟩, by simp [intOf]⟩
              rw [HQ.out.2, setCell_drewN, World.setCell_alloc_at _ _ _ _ _ (by simp), HS.out]
        · obtain rfl : k = 0 := by omega
          have e : (((0 : Nat) : Int) - 1) = -1 := rfl
          rw [e, Nat.add_zero]
          clear e
          go_wp2_with fail
          go_roundw
          case rel => exact ⟨i, c, by omega, rfl, rfl, rfl⟩
          case measure => simp [intOf]
    · obtain rfl : k = 0 := by omega
      have e : (((0 : Nat) : Int) - 1) = -1 := rfl
      have e2 : n / 2 ^ (32 * 0) / d * 2 ^ (32 * 0) = n / d := by simp
      have e3 : n / 2 ^ (32 * 0) % d = n % d := by simp
      rw [e, e2, e3]
      clear e e2 e3
      have f1 : IsQ ((((w.alloc (Obj.cells (qA n) 126)).alloc (Obj.cells (qA 0) 126)).alloc (Obj.cells (qA (n / d)) 126)).drewN c) (w.heap.size + 1 + 1) (n / d) := by
        show (((w.alloc (Obj.cells (qA n) 126)).alloc (Obj.cells (qA 0) 126)).alloc (Obj.cells (qA (n / d)) 126)).heap[_]? = _
        exact (by repeat (first | (with_reducible refine heap_top _ _ _ ?_; first | (simp; done) | (simp; omega)) | rw [Below.heap_alloc _ _ _ (by first | (simp; done) | (simp; omega))]))
      have f2 : IsQ ((((w.alloc (Obj.cells (qA n) 126)).alloc (Obj.cells (qA 0) 126)).alloc (Obj.cells (qA (n / d)) 126)).drewN c) (w.heap.size + 1) 0 := by
        show (((w.alloc (Obj.cells (qA n) 126)).alloc (Obj.cells (qA 0) 126)).alloc (Obj.cells (qA (n / d)) 126)).heap[_]? = _
        exact (by repeat (first | (with_reducible refine heap_top _ _ _ ?_; first | (simp; done) | (simp; omega)) | rw [Below.heap_alloc _ _ _ (by first | (simp; done) | (simp; omega))]))
      have f3 : Below w.heap.size w ((((w.alloc (Obj.cells (qA n) 126)).alloc (Obj.cells (qA 0) 126)).alloc (Obj.cells (qA (n / d)) 126)).drewN c) :=
        below_drewN ((((Below.refl _ _).alloc (Nat.le_refl _) _).alloc (by simp) _).alloc (by simp; omega) _) c
      generalize (((w.alloc (Obj.cells (qA n) 126)).alloc (Obj.cells (qA 0) 126)).alloc (Obj.cells (qA (n / d)) 126)).drewN c = W at f1 f2 f3 ⊢
      go_wp2_with (first
        | (with_reducible refine wpQ_load rfl (.tmp 6) rfl (w.heap.size + 1 + 1) rfl (n / d) f1 ?_)
        | (with_reducible refine wpQ_store rfl (.tmp 4) (.tmp 47) rfl (w.heap.size + 1) rfl (n / d) 0 rfl f2 ?_; intro w1 hp1))
      exact retQ1 rfl rfl (.int .u64 (n % d : Nat)) rfl hp1.row ⟨rfl, hp1.below _ _ (by omega) f3⟩

end Go.Proofs.Ytnhkecfapohlgaa

/-! package wide's product on seven parts: its contract, whatever the world. -/
namespace Go.Proofs.Ytnhkecfapohlgaa
open Go.RowKit

theorem qA_ext (a b : Nat) (h : ∀ j, j < 7 → dg a j = dg b j) : qA a = qA b := by
  unfold qA; congr 1; funext i; rw [h _ i.isLt]
theorem dg_mod (a j : Nat) (h : j < 7) : dg (a % 2 ^ 224) j = dg a j := by
  unfold dg
  have e : (2 : Nat) ^ 224 = 2 ^ (32 * j) * (2 ^ 32 * 2 ^ (224 - 32 * j - 32)) := by rw [← Nat.pow_add, ← Nat.pow_add]; congr 1; omega
  rw [e, Nat.mod_mul_right_div_self, Nat.mod_mul_right_mod]
theorem qA_mod (a : Nat) : qA (a % 2 ^ 224) = qA a := qA_ext _ _ fun j h => dg_mod a j h
theorem qA_cong (a b : Nat) (h : a % 2 ^ 224 = b % 2 ^ 224) : qA a = qA b := by rw [← qA_mod a, h, qA_mod]

/-- The digit at place j of r + o 2^(32 j); and the number with another digit there. -/
theorem dg_at (r o j : Nat) (hr : r < 2 ^ (32 * j)) : dg (r + o * 2 ^ (32 * j)) j = o % 2 ^ 32 := by
  unfold dg
  rw [Nat.add_mul_div_right _ _ (Nat.two_pow_pos _), Nat.div_eq_of_lt hr, Nat.zero_add]
theorem pow32 (j : Nat) : 2 ^ (32 * (j + 1)) = 2 ^ (32 * j) * 2 ^ 32 := by rw [← Nat.pow_add]; congr 1
theorem digit_low (r x A P C : Nat) (hA : 0 < A) : (r + x * (A * (P * C))) / A % P = r / A % P := by
  have e : x * (A * (P * C)) = A * (P * (C * x)) := by rw [Nat.mul_comm x, Nat.mul_assoc, Nat.mul_assoc]
  rw [e, Nat.add_comm, Nat.mul_add_div hA, Nat.mul_add_mod]
theorem digit_high (r x B P D : Nat) (hr : r < B) : (r + x * B) / (B * (P * D)) = x / P / D := by
  rw [← Nat.div_div_eq_div_mul, ← Nat.div_div_eq_div_mul, Nat.add_mul_div_right _ _ (by omega), Nat.div_eq_of_lt hr, Nat.zero_add]
theorem dg_low' (r x i j : Nat) (h : i < j) : dg (r + x * 2 ^ (32 * j)) i = dg r i := by
  have e : 2 ^ (32 * j) = 2 ^ (32 * i) * (2 ^ 32 * 2 ^ (32 * (j - i - 1))) := by rw [← Nat.pow_add, ← Nat.pow_add]; congr 1; omega
  unfold dg
  rw [e]
  exact digit_low _ _ _ _ _ (Nat.two_pow_pos _)
theorem dg_high' (r x i j : Nat) (h : j < i) (hr : r < 2 ^ (32 * j)) : dg (r + x * 2 ^ (32 * j)) i = x / 2 ^ 32 / 2 ^ (32 * (i - j - 1)) % 2 ^ 32 := by
  have e : 2 ^ (32 * i) = 2 ^ (32 * j) * (2 ^ 32 * 2 ^ (32 * (i - j - 1))) := by rw [← Nat.pow_add, ← Nat.pow_add]; congr 1; omega
  unfold dg
  rw [e, digit_high _ _ _ _ _ hr]
theorem regroup (r v t B P : Nat) : r + v * B + t * (B * P) = r + (v + t * P) * B := by
  rw [Nat.add_mul, Nat.mul_assoc, Nat.mul_comm P, Nat.add_assoc]
theorem top_drop (v t P : Nat) (hv : v < P) : (v + t * P) / P = t ∧ (v + t * P) % P = v := by
  refine ⟨?_, ?_⟩
  · rw [Nat.add_mul_div_right _ _ (by omega), Nat.div_eq_of_lt hv, Nat.zero_add]
  · rw [Nat.add_mul_mod_self_right, Nat.mod_eq_of_lt hv]
theorem qA_digit (r o v j : Nat) (hr : r < 2 ^ (32 * j)) (hv : v < 2 ^ 32) :
    (qA (r + o * 2 ^ (32 * j))).setIfInBounds j (.int .u64 (v : Int)) = qA (r + v * 2 ^ (32 * j) + o / 2 ^ 32 * 2 ^ (32 * (j + 1))) := by
  obtain ⟨d1, d2⟩ := top_drop v (o / 2 ^ 32) (2 ^ 32) hv
  have e : r + v * 2 ^ (32 * j) + o / 2 ^ 32 * 2 ^ (32 * (j + 1)) = r + (v + o / 2 ^ 32 * 2 ^ 32) * 2 ^ (32 * j) := by
    rw [pow32]; exact regroup _ _ _ _ _
  have h1 : dg (r + (v + o / 2 ^ 32 * 2 ^ 32) * 2 ^ (32 * j)) j = v := by rw [dg_at _ _ _ hr, d2]
  have h2 : ∀ i, i < 7 → i ≠ j → dg (r + (v + o / 2 ^ 32 * 2 ^ 32) * 2 ^ (32 * j)) i = dg (r + o * 2 ^ (32 * j)) i := fun i _ hi => by
    rcases Nat.lt_or_ge i j with h | h
    · rw [dg_low' _ _ _ _ h, dg_low' _ _ _ _ h]
    · rw [dg_high' _ _ _ _ (by omega) hr, dg_high' _ _ _ _ (by omega) hr, d1]
  rw [e]
  generalize r + (v + o / 2 ^ 32 * 2 ^ 32) * 2 ^ (32 * j) = M at h1 h2 ⊢
  generalize r + o * 2 ^ (32 * j) = N at h2 ⊢
  exact qA_set N M j (v : Int) (by rw [h1]) h2

/-- One step of adding with a carry: the sum stays. -/
theorem add_step (r c o y x f S j : Nat) (hS : S = c + (o % 2 ^ 32 + y * f)) :
    r + (c + o + (y + 2 ^ 32 * x) * f) * 2 ^ (32 * j) = (r + S % 2 ^ 32 * 2 ^ (32 * j)) + (S / 2 ^ 32 + o / 2 ^ 32 + x * f) * 2 ^ (32 * (j + 1)) := by
  have ho := Nat.div_add_mod o (2 ^ 32)
  have hs := Nat.div_add_mod S (2 ^ 32)
  generalize o % 2 ^ 32 = a at *
  generalize o / 2 ^ 32 = b at *
  generalize S % 2 ^ 32 = v at *
  generalize S / 2 ^ 32 = t at *
  rw [pow32, Nat.add_mul y, Nat.mul_assoc (2 ^ 32) x f]
  generalize y * f = p at *
  generalize x * f = g at *
  have e : c + o + (p + 2 ^ 32 * g) = v + (t + b + g) * 2 ^ 32 := by omega
  rw [e, Nat.add_mul, Nat.mul_assoc, Nat.mul_comm (2 ^ 32)]
  simp only [Nat.add_assoc]
theorem add_lt (r v j : Nat) (hr : r < 2 ^ (32 * j)) (hv : v < 2 ^ 32) : r + v * 2 ^ (32 * j) < 2 ^ (32 * (j + 1)) := by
  rw [pow32, Nat.mul_comm (2 ^ (32 * j))]
  have : (v + 1) * 2 ^ (32 * j) ≤ 2 ^ 32 * 2 ^ (32 * j) := Nat.mul_le_mul_right _ hv
  rw [Nat.add_mul, Nat.one_mul] at this
  omega
theorem mul_lt32 (y f : Nat) (hy : y < 2 ^ 32) (hf : f < 2 ^ 32) : y * f ≤ 18446744065119617025 := Nat.mul_le_mul (show y ≤ 4294967295 by omega) (show f ≤ 4294967295 by omega)

theorem idx2 (x0 x1 : Value) (i : Nat) (hi : i < 2) (w : World) : (Instr.index 132 (.agg #[x0, x1]) (.int .i64 (i : Int))).run Try.prog w = .ok (if i = 0 then x0 else x1) w := by
  have h : i = 0 ∨ i = 1 := by omega
  rcases h with rfl | rfl
  · simp [Instr.index, go_sem]
  · simp [Instr.index, go_sem]
theorem mul_step (n k : Nat) : n / 2 ^ (32 * k) = dg n k + 2 ^ 32 * (n / 2 ^ (32 * (k + 1))) := by
  unfold dg
  rw [pow32, ← Nat.div_div_eq_div_mul, Nat.mod_add_div]

theorem mod_cong (r x O P z : Nat) (h : r + x * P = O + z) : r % P = (O + z) % P := by rw [← h, Nat.add_mul_mod_self_right]
theorem times_next (n m f0 f1 f i O N r z : Nat) (hi : i < 2) (hf : f = if i = 0 then f0 else f1) (hm : m = f0 + f1 * 2 ^ 32) (hO : O % 2 ^ 224 = (n * (if i = 0 then 0 else if i = 1 then f0 else m)) % 2 ^ 224)
    (h : r + z * 2 ^ (32 * 7) = O + n * f * 2 ^ (32 * i)) (o : Nat) (hN : N = r + o * 2 ^ (32 * 7)) : N % 2 ^ 224 = (n * (if i + 1 = 0 then 0 else if i + 1 = 1 then f0 else m)) % 2 ^ 224 := by
  have e0 : (2 : Nat) ^ (32 * 7) = 2 ^ 224 := by congr 1
  rw [e0] at h hN
  have e1 : N % 2 ^ 224 = (O + n * f * 2 ^ (32 * i)) % 2 ^ 224 := by rw [hN, Nat.add_mul_mod_self_right]; exact mod_cong _ _ _ _ _ h
  rw [e1, Nat.add_mod, hO, ← Nat.add_mod]
  have h2 : i = 0 ∨ i = 1 := by omega
  rcases h2 with rfl | rfl
  · simp [hf]
  · have hf' : f = f1 := by simpa using hf
    have e2 : (if 1 + 1 = 0 then 0 else if 1 + 1 = 1 then f0 else m) = m := by simp
    have e3 : (if 1 = 0 then 0 else if 1 = 1 then f0 else m) = f0 := by simp
    rw [e2, e3, hf', hm, Nat.mul_add, Nat.mul_assoc, Nat.mul_one]
theorem add_step0 (r c o S j : Nat) (hS : S = c + o % 2 ^ 32) : r + (c + o) * 2 ^ (32 * j) = (r + S % 2 ^ 32 * 2 ^ (32 * j)) + (S / 2 ^ 32 + o / 2 ^ 32) * 2 ^ (32 * (j + 1)) := by
  have := add_step r c o 0 0 0 S j (by omega)
  simpa using this
theorem more_next (M m f0 f1 f i O N r z : Nat) (hi : i < 2) (hf : f = if i = 0 then f0 else f1) (hm : m = f0 + f1 * 2 ^ 32) (hO : O % 2 ^ 224 = (M + (if i = 0 then 0 else if i = 1 then f0 else m)) % 2 ^ 224)
    (h : r + z * 2 ^ (32 * 7) = O + f * 2 ^ (32 * i)) (o : Nat) (hN : N = r + o * 2 ^ (32 * 7)) : N % 2 ^ 224 = (M + (if i + 1 = 0 then 0 else if i + 1 = 1 then f0 else m)) % 2 ^ 224 := by
  have e0 : (2 : Nat) ^ (32 * 7) = 2 ^ 224 := by congr 1
  rw [e0] at h hN
  have e1 : N % 2 ^ 224 = (O + f * 2 ^ (32 * i)) % 2 ^ 224 := by rw [hN, Nat.add_mul_mod_self_right]; exact mod_cong _ _ _ _ _ h
  rw [e1, Nat.add_mod, hO, ← Nat.add_mod]
  have h2 : i = 0 ∨ i = 1 := by omega
  rcases h2 with rfl | rfl
  · simp [hf]
  · have hf' : f = f1 := by simpa using hf
    have e2 : (if 1 + 1 = 0 then 0 else if 1 + 1 = 1 then f0 else m) = m := by simp
    have e3 : (if 1 = 0 then 0 else if 1 = 1 then f0 else m) = f0 := by simp
    rw [e2, e3, hf', hm, Nat.add_assoc, Nat.mul_one]

set_option maxRecDepth 100000 in
set_option maxHeartbeats 1000000 in
theorem times_any (n m more : Nat) (w : World) (hm : m < 2 ^ 64) (hmore : more < 2 ^ 64) :
    Calls Try.prog 90 #[.agg (qA n), .int .u64 m, .int .u64 more] w fun e w' => e = .returned (.agg (qA (n * m + more))) ∧ Below w.heap.size w w' := by
  have hz : ∀ w, (zeroValue 126).run Try.prog w = .ok (.agg (qA 0)) w := fun w => by
    rw [qA_zero]
    exact (zero_of_info' quart_info) w
  have e1 := and32 m hm
  have e2 := and32 more hmore
  have e3 : (m : Int) / 4294967296 = ((m / 2 ^ 32 : Nat) : Int) := by omega
  have e4 : (more : Int) / 4294967296 = ((more / 2 ^ 32 : Nat) : Int) := by omega
  have F0 := Lib.hid (show m % 2 ^ 32 < 2 ^ 32 from Nat.mod_lt _ (by decide))
  have F1 := Lib.hid (show m / 2 ^ 32 < 2 ^ 32 by omega)
  have F2 := Lib.hid (show m = m % 2 ^ 32 + m / 2 ^ 32 * 2 ^ 32 by omega)
  have G0 := Lib.hid (show more % 2 ^ 32 < 2 ^ 32 from Nat.mod_lt _ (by decide))
  have G1 := Lib.hid (show more / 2 ^ 32 < 2 ^ 32 by omega)
  have G2 := Lib.hid (show more = more % 2 ^ 32 + more / 2 ^ 32 * 2 ^ 32 by omega)
  generalize m % 2 ^ 32 = f0 at *
  generalize m / 2 ^ 32 = f1 at *
  generalize more % 2 ^ 32 = g0 at *
  generalize more / 2 ^ 32 = g1 at *
  have hm0 : 0 ≤ (m : Int) := by omega
  have hm1 : 0 ≤ (more : Int) := by omega
  clear hm hmore
  go_enter Try.func90, Try.ntmps90
  go_wp2_with fail
  go_loopw [21] (fun t wr => ∃ i c O : Nat, i ≤ 2 ∧ t = .int .i64 i ∧ Hid (O % 2 ^ 224 = (n * (if i = 0 then 0 else if i = 1 then f0 else m)) % 2 ^ 224) ∧
      wr = (((w.alloc (Obj.cells (qA n) 126)).alloc (Obj.cells (qA 0) 126)).alloc (Obj.cells (qA O) 126)).drewN c)
    (fun t _ => 2 - (intOf t).toNat)
  case atStart => exact ⟨0, 0, 0, by omega, rfl, rfl, rfl⟩
  case round =>
    obtain ⟨i, c0, O, hi, rfl, HO, rfl⟩ := hrel
    by_cases hlt : i < 2
    · have hi2 : (i : Int) < 2 := by omega
      have hidx := idx2 (.int .u64 (f0 : Int)) (.int .u64 (f1 : Int)) i hlt
      obtain ⟨f, hf⟩ : ∃ f, f = if i = 0 then f0 else f1 := ⟨_, rfl⟩
      have hff : (if i = 0 then Value.int .u64 (f0 : Int) else .int .u64 (f1 : Int)) = .int .u64 (f : Int) := by rw [hf]; split <;> rfl
      rw [hff] at hidx
      have FF := Lib.hid (show f < 2 ^ 32 by rw [hf]; split <;> first | exact F0.out | exact F1.out)
      have HF := Lib.hid hf
      clear hff hf
      obtain ⟨wo, hwo⟩ : ∃ wo : World, wo = (((w.alloc (Obj.cells (qA n) 126)).alloc (Obj.cells (qA 0) 126)).alloc (Obj.cells (qA O) 126)).drewN c0 := ⟨_, rfl⟩
      have Hwo := Lib.hid hwo
      rw [← hwo]
      clear hwo
      go_wp2_with fail
      go_loopw [10, 11] (fun t10 t11 wr => ∃ k r c o g : Nat, k + i ≤ 7 ∧ t11 = .int .i64 k ∧ t10 = .int .u64 c ∧ Hid (c < 2 ^ 32) ∧ Hid (r < 2 ^ (32 * (k + i))) ∧ Hid (r + (c + o + n / 2 ^ (32 * k) * f) * 2 ^ (32 * (k + i)) = O + n * f * 2 ^ (32 * i)) ∧
          wr = (((w.alloc (Obj.cells (qA n) 126)).alloc (Obj.cells (qA 0) 126)).alloc (Obj.cells (qA (r + o * 2 ^ (32 * (k + i)))) 126)).drewN g)
        (fun _ t11 _ => 7 - (intOf t11).toNat)
      case atStart =>
        refine ⟨0, O % 2 ^ (32 * i), 0, O / 2 ^ (32 * i), c0, by omega, rfl, rfl, (by decide : 0 < 2 ^ 32), ?_, ?_, ?_⟩
        · rw [Nat.zero_add]; exact (Nat.mod_lt _ (Nat.two_pow_pos _) : _ < _)
        · show _ = _
          rw [Nat.zero_add, Nat.mul_zero, Nat.pow_zero, Nat.div_one, Nat.zero_add, Nat.add_mul, ← Nat.add_assoc, Nat.mod_add_div']
        · rw [Nat.zero_add, Nat.mod_add_div']; exact Hwo.out
      case round =>
        clear Hwo hidx
        obtain ⟨k, r, c, o, g, hk, rfl, rfl, HC, HR, HT, rfl⟩ := hrel
        by_cases hlt2 : k + i < 7
        · have hk7 : k < 7 := by omega
          have hb1 : (k : Int) + (i : Int) < 7 := by omega
          have hb2 : (k : Int) < 7 := by omega
          have hq := qA_get n k hk7
          have hsz := qA_size (r + o * 2 ^ (32 * (k + i)))
          have ho := qA_at (r + o * 2 ^ (32 * (k + i))) (k + i) (by rw [hsz]; exact hlt2)
          rw [dg_at _ _ _ HR.out] at ho
          have hp := mul_lt32 (dg n k) f (dg_lt n k) FF.out
          have ha : o % 2 ^ 32 < 4294967296 := Nat.mod_lt _ (by decide)
          have hc : c < 4294967296 := HC.out
          obtain ⟨S, hS⟩ : ∃ S, S = c + (o % 2 ^ 32 + dg n k * f) := ⟨_, rfl⟩
          have hcast : (c : Int) + (((o % 2 ^ 32 : Nat) : Int) + (dg n k : Int) * (f : Int)) = (S : Int) := by rw [hS]; simp
          have hS64 : S < 2 ^ 64 := by omega
          have hv := and32 S hS64
          have hcar : (S : Int) / 4294967296 = ((S / 2 ^ 32 : Nat) : Int) := by omega
          have hp1 : (dg n k : Int) * (f : Int) ≤ 18446744065119617025 := by rw [← Int.natCast_mul]; exact Int.ofNat_le.2 hp
          have hp0 : 0 ≤ (dg n k : Int) * (f : Int) := by rw [← Int.natCast_mul]; exact Int.natCast_nonneg _
          have ha' : ((o % 2 ^ 32 : Nat) : Int) < 4294967296 := Int.ofNat_lt.2 ha
          have hS0 : 0 ≤ (S : Int) := Int.natCast_nonneg _
          have HV := Lib.hid (show S % 2 ^ 32 < 2 ^ 32 from Nat.mod_lt _ (by decide))
          have HTT := Lib.hid (show S / 2 ^ 32 < 2 ^ 32 by omega)
          have HADD := Lib.hid (add_step r c o (dg n k) (n / 2 ^ (32 * (k + 1))) f S (k + i) hS)
          rw [← mul_step] at HADD
          have HD := Lib.hid (qA_digit r o (S % 2 ^ 32) (k + i) HR.out HV.out)
          have HLT := Lib.hid (add_lt r (S % 2 ^ 32) (k + i) HR.out HV.out)
          clear hS hS64 hp ha
          generalize S % 2 ^ 32 = v at *
          generalize S / 2 ^ 32 = t at *
          generalize hoa : o % 2 ^ 32 = a at ho hcast ha'
          clear hoa
          go_wp2_with fail
          go_quiet (fail)
          go_wp2_with fail
          refine ⟨⟨k + 1, r + v * 2 ^ (32 * (k + i)), t, o / 2 ^ 32, g + nq, by omega, by go_num, rfl, HTT.out, ?_, ?_, ?_⟩, by simp [intOf]; omega⟩
          · rw [show k + 1 + i = k + i + 1 by omega]; exact HLT.out
          · show _ = _
            rw [show k + 1 + i = k + i + 1 by omega, ← HADD.out]; exact HT.out
          · rw [show k + 1 + i = k + i + 1 by omega, setCell_drewN, World.setCell_alloc_at _ _ _ _ _ (by simp), HD.out]
        · have hb1 : 7 ≤ (k : Int) + (i : Int) := by omega
          have hki : k + i = 7 := by omega
          have HO2 := Lib.hid (times_next n m f0 f1 f i O (r + o * 2 ^ (32 * (k + i))) r _ hlt HF.out F2.out HO.out (by have := HT.out; rwa [hki] at this) o (by rw [hki]))
          generalize r + o * 2 ^ (32 * (k + i)) = N at HO2 ⊢
          clear hki HT HO HR
          go_wp2_with fail
          exact ⟨⟨i + 1, g, N, by omega, by go_num, HO2.out, rfl⟩, by simp [intOf]; omega⟩
    · have hi2 : 2 ≤ (i : Int) := by omega
      have HO' : Hid (O % 2 ^ 224 = (n * m) % 2 ^ 224) := by
        obtain rfl : i = 2 := by omega
        exact HO.out
      clear HO
      go_wp2_with fail
      go_loopw [58] (fun t wr => ∃ i c O : Nat, i ≤ 2 ∧ t = .int .i64 i ∧ Hid (O % 2 ^ 224 = (n * m + (if i = 0 then 0 else if i = 1 then g0 else more)) % 2 ^ 224) ∧
          wr = (((w.alloc (Obj.cells (qA n) 126)).alloc (Obj.cells (qA 0) 126)).alloc (Obj.cells (qA O) 126)).drewN c)
        (fun t _ => 2 - (intOf t).toNat)
      case atStart => exact ⟨0, c0, O, by omega, rfl, HO'.out, rfl⟩
      case round =>
        clear HO'
        obtain ⟨i, c0, O, hi, rfl, HO, rfl⟩ := hrel
        by_cases hlt : i < 2
        · have hi2 : (i : Int) < 2 := by omega
          have hidx := idx2 (.int .u64 (g0 : Int)) (.int .u64 (g1 : Int)) i hlt
          obtain ⟨f, hf⟩ : ∃ f, f = if i = 0 then g0 else g1 := ⟨_, rfl⟩
          have hff : (if i = 0 then Value.int .u64 (g0 : Int) else .int .u64 (g1 : Int)) = .int .u64 (f : Int) := by rw [hf]; split <;> rfl
          rw [hff] at hidx
          have FF := Lib.hid (show f < 2 ^ 32 by rw [hf]; split <;> first | exact G0.out | exact G1.out)
          have HF := Lib.hid hf
          clear hff hf
          obtain ⟨wo, hwo⟩ : ∃ wo : World, wo = (((w.alloc (Obj.cells (qA n) 126)).alloc (Obj.cells (qA 0) 126)).alloc (Obj.cells (qA O) 126)).drewN c0 := ⟨_, rfl⟩
          have Hwo := Lib.hid hwo
          rw [← hwo]
          clear hwo
          go_wp2_with fail
          go_loopw [14, 15] (fun t14 t15 wr => ∃ k r c o g : Nat, k ≤ 7 ∧ t15 = .int .i64 k ∧ t14 = .int .u64 c ∧ Hid (c < 2 ^ 32) ∧ Hid (r < 2 ^ (32 * k)) ∧ Hid (r + (c + o) * 2 ^ (32 * k) = O + f * 2 ^ (32 * i)) ∧
              wr = (((w.alloc (Obj.cells (qA n) 126)).alloc (Obj.cells (qA 0) 126)).alloc (Obj.cells (qA (r + o * 2 ^ (32 * k))) 126)).drewN g)
            (fun _ t15 _ => 7 - (intOf t15).toNat)
          case atStart =>
            refine ⟨i, O % 2 ^ (32 * i), f, O / 2 ^ (32 * i), c0, by omega, rfl, rfl, FF.out, (Nat.mod_lt _ (Nat.two_pow_pos _) : _ < _), ?_, ?_⟩
            · show _ = _
              rw [Nat.add_comm f, Nat.add_mul, ← Nat.add_assoc, Nat.mod_add_div']
            · rw [Nat.mod_add_div']; exact Hwo.out
          case round =>
            clear Hwo hidx
            obtain ⟨k, r, c, o, g, hk, rfl, rfl, HC, HR, HT, rfl⟩ := hrel
            by_cases hlt2 : k < 7
            · have hb2 : (k : Int) < 7 := by omega
              have hsz := qA_size (r + o * 2 ^ (32 * k))
              have ho := qA_at (r + o * 2 ^ (32 * k)) k (by rw [hsz]; exact hlt2)
              rw [dg_at _ _ _ HR.out] at ho
              have ha : o % 2 ^ 32 < 4294967296 := Nat.mod_lt _ (by decide)
              have hc : c < 4294967296 := HC.out
              obtain ⟨S, hS⟩ : ∃ S, S = c + o % 2 ^ 32 := ⟨_, rfl⟩
              have hcast : (c : Int) + ((o % 2 ^ 32 : Nat) : Int) = (S : Int) := by rw [hS]; simp
              have hS64 : S < 2 ^ 64 := by omega
              have hv := and32 S hS64
              have hcar : (S : Int) / 4294967296 = ((S / 2 ^ 32 : Nat) : Int) := by omega
              have ha' : ((o % 2 ^ 32 : Nat) : Int) < 4294967296 := Int.ofNat_lt.2 ha
              have hS0 : 0 ≤ (S : Int) := Int.natCast_nonneg _
              have HV := Lib.hid (show S % 2 ^ 32 < 2 ^ 32 from Nat.mod_lt _ (by decide))
              have HTT := Lib.hid (show S / 2 ^ 32 < 2 ^ 32 by omega)
              have HADD := Lib.hid (add_step0 r c o S k hS)
              have HD := Lib.hid (qA_digit r o (S % 2 ^ 32) k HR.out HV.out)
              have HLT := Lib.hid (add_lt r (S % 2 ^ 32) k HR.out HV.out)
              clear hS hS64 ha
              generalize S % 2 ^ 32 = v at *
              generalize S / 2 ^ 32 = t at *
              generalize hoa : o % 2 ^ 32 = a at ho hcast ha'
              clear hoa
              go_wp2_with fail
              refine ⟨⟨k + 1, r + v * 2 ^ (32 * k), t, o / 2 ^ 32, g, by omega, by go_num, rfl, HTT.out, HLT.out, ?_, ?_⟩, by simp [intOf]; omega⟩
              · show _ = _
                rw [← HADD.out]; exact HT.out
              · rw [setCell_drewN, World.setCell_alloc_at _ _ _ _ _ (by simp), HD.out]
            · have hb1 : 7 ≤ (k : Int) := by omega
              have hki : k = 7 := by omega
              have HO2 := Lib.hid (more_next (n * m) more g0 g1 f i O (r + o * 2 ^ (32 * k)) r _ hlt HF.out G2.out HO.out (by have := HT.out; rwa [hki] at this) o (by rw [hki]))
              generalize r + o * 2 ^ (32 * k) = N at HO2 ⊢
              clear hki HT HO HR
              go_wp2_with fail
              exact ⟨⟨i + 1, g, N, by omega, by go_num, HO2.out, rfl⟩, by simp [intOf]; omega⟩
        · have hi2 : 2 ≤ (i : Int) := by omega
          have HN : Hid (qA O = qA (n * m + more)) := by
            obtain rfl : i = 2 := by omega
            exact qA_cong _ _ HO.out
          clear HO
          have f1 : IsQ ((((w.alloc (Obj.cells (qA n) 126)).alloc (Obj.cells (qA 0) 126)).alloc (Obj.cells (qA O) 126)).drewN c0) (w.heap.size + 1 + 1) O := by
            show (((w.alloc (Obj.cells (qA n) 126)).alloc (Obj.cells (qA 0) 126)).alloc (Obj.cells (qA O) 126)).heap[_]? = _
            exact (by repeat (first | (with_reducible refine heap_top _ _ _ ?_; first | (simp; done) | (simp; omega)) | rw [Below.heap_alloc _ _ _ (by first | (simp; done) | (simp; omega))]))
          have f2 : IsQ ((((w.alloc (Obj.cells (qA n) 126)).alloc (Obj.cells (qA 0) 126)).alloc (Obj.cells (qA O) 126)).drewN c0) (w.heap.size + 1) 0 := by
            show (((w.alloc (Obj.cells (qA n) 126)).alloc (Obj.cells (qA 0) 126)).alloc (Obj.cells (qA O) 126)).heap[_]? = _
            exact (by repeat (first | (with_reducible refine heap_top _ _ _ ?_; first | (simp; done) | (simp; omega)) | rw [Below.heap_alloc _ _ _ (by first | (simp; done) | (simp; omega))]))
          have f3 : Below w.heap.size w ((((w.alloc (Obj.cells (qA n) 126)).alloc (Obj.cells (qA 0) 126)).alloc (Obj.cells (qA O) 126)).drewN c0) :=
            below_drewN ((((Below.refl _ _).alloc (Nat.le_refl _) _).alloc (by simp) _).alloc (by simp; omega) _) c0
          generalize (((w.alloc (Obj.cells (qA n) 126)).alloc (Obj.cells (qA 0) 126)).alloc (Obj.cells (qA O) 126)).drewN c0 = W at f1 f2 f3 ⊢
          go_wp2_with (first
            | (with_reducible refine wpQ_load rfl (.tmp 7) rfl (w.heap.size + 1 + 1) rfl O f1 ?_)
            | (with_reducible refine wpQ_store rfl (.tmp 6) (.tmp 80) rfl (w.heap.size + 1) rfl O 0 rfl f2 ?_; intro w1 hp1))
          exact retQ rfl rfl hp1.row ⟨by rw [HN.out], hp1.below _ _ (by omega) f3⟩

end Go.Proofs.Ytnhkecfapohlgaa

/-! The functions of mainsheetref03 on rows of 256 bits: their contracts, whatever the world. -/
namespace Go.Proofs.Ytnhkecfapohlgaa
open Go.RowKit

section
variable {ops : Array Oper} {rest : List Oper} {o : Oper} {a : Act} {w : World} {Q : Exit → Act → World → Prop}
end

end Go.Proofs.Ytnhkecfapohlgaa

/-! More of mainsheetref03's functions on rows of 256 bits: their contracts, whatever the world. -/
namespace Go.Proofs.Ytnhkecfapohlgaa
open Go.RowKit

end Go.Proofs.Ytnhkecfapohlgaa

/-! mainsheetref03's product and quotient on rows of 256 bits: their contracts, whatever the world. -/
namespace Go.Proofs.Ytnhkecfapohlgaa
open Go.RowKit

section
variable {ops : Array Oper} {rest : List Oper} {o : Oper} {a : Act} {w : World} {Q : Exit → Act → World → Prop}
end

/-- A block of bits in a world. -/
@[reducible] def IsB (w : World) (g n : Nat) : Prop := w.heap[g]? = some (.cells (bA n) 111 (0, 0))

end Go.Proofs.Ytnhkecfapohlgaa

/-! mainsheetref03's quotient on rows of 256 bits: its contract, whatever the world. -/
namespace Go.Proofs.Ytnhkecfapohlgaa
open Go.RowKit

section
variable {ops : Array Oper} {C : (Nat → Bool) → World → Prop} {Q : Act → Prop} {o : Oper} {rest : List Oper} {i : Nat} {a : Act}
end

/-- The six blocks of the quotient's walk, in a world. -/
structure QW (B : Nat) (w0 : World) (a d out rest : Nat) (w : World) : Prop where
  a : IsB w B a
  d : IsB w (B + 1) d
  q0 : IsB w (B + 1 + 1) 0
  r0 : IsB w (B + 1 + 1 + 1) 0
  out : IsB w (B + 1 + 1 + 1 + 1) out
  rest : IsB w (B + 1 + 1 + 1 + 1 + 1) rest
  below : Below B w0 w
  size : B + 1 + 1 + 1 + 1 + 1 < w.heap.size

theorem QW.kept {B : Nat} {w0 w w1 : World} {a d out rest : Nat} (h : QW B w0 a d out rest w) (hb : Below w.heap.size w w1) : QW B w0 a d out rest w1 := by
  have hs := h.size
  have hb1 := hb.size
  exact ⟨(hb.block _ (by omega)).trans h.a, (hb.block _ (by omega)).trans h.d, (hb.block _ (by omega)).trans h.q0, (hb.block _ (by omega)).trans h.r0, (hb.block _ (by omega)).trans h.out,
    (hb.block _ (by omega)).trans h.rest, h.below.trans (hb.mono (by omega)), by omega⟩
end Go.Proofs.Ytnhkecfapohlgaa

/-! mainsheetref03's Of, Number and Scaled: their contracts, whatever the world. -/
namespace Go.Proofs.Ytnhkecfapohlgaa
open Go.RowKit

/-- The bits of a number's two halves, so many of each. -/
def ofAt (h l k : Nat) : Nat → Bool := fun j => if j < 64 then decide (j < k) && l.testBit j else decide (j - 64 < k) && h.testBit (j - 64)
/-- Has the row no more than 128 bits? -/
def fits (b : Nat) : Bool := decide (b % 2 ^ 256 < 2 ^ 128)
end Go.Proofs.Ytnhkecfapohlgaa

/-! mainsheetref03's Scaled: its contract, whatever the world. -/
namespace Go.Proofs.Ytnhkecfapohlgaa
open Go.RowKit

/-- A product over a number, rounded up, if so. -/
def scl (n m d : Nat) (up : Bool) : Nat := n * m / d + (if up && n * m % d != 0 then 1 else 0)

end Go.Proofs.Ytnhkecfapohlgaa

/-! package wide's Mul, Div, scaled, Scale, MulDiv: their contracts, whatever the world. -/
namespace Go.Proofs.Ytnhkecfapohlgaa
open Go.RowKit

theorem Below.two {B : Nat} {w0 w w1 : World} (h : Below B w0 w) (hB : B ≤ w0.heap.size) (h1 : Below w.heap.size w w1) : Below B w0 w1 := h.trans (h1.mono (Nat.le_trans hB h.size))

set_option maxRecDepth 100000 in
set_option maxHeartbeats 400000 in
theorem wMul_any (a b : Nat) (w : World) (ha : a < 2 ^ 64) (hb : b < 2 ^ 64) :
    Calls Try.prog 82 #[.int .u64 a, .int .u64 b] w fun e w' => ∃ h l : Nat, e = .returned (.agg #[.int .u64 h, .int .u64 l]) ∧ h < 2 ^ 64 ∧ l < 2 ^ 64 ∧ h * 2 ^ 64 + l = a * b ∧ Below w.heap.size w w' := by
  have HA := Lib.hid ha
  have HB := Lib.hid hb
  have HV := Lib.hid (show a * b + 0 < 2 ^ 128 from by have := Nat.mul_lt_mul'' ha hb; omega)
  clear ha hb
  go_enter Try.func82, Try.ntmps82
  go_wp2_with fail
  refine (wOf_any _ _).mono ?_
  rintro e w1 ⟨rfl, hb1⟩
  have r1 : IsW w1 w.heap.size 0 0 := IsR.kept (by unfold IsR; exact (by repeat (first | (with_reducible refine heap_top _ _ _ ?_; first | (simp; done) | (simp; omega)) | rw [Below.heap_alloc _ _ _ (by first | (simp; done) | (simp; omega))]))) hb1
  have k1 : Below w.heap.size w w1 := Below.two ((Below.refl _ _).alloc (Nat.le_refl _) _) (Nat.le_refl _) hb1
  clear hb1
  go_wp2_with fail
  refine (wof_any 0 a a _ (by decide) HA.out (by omega)).mono ?_
  rintro e w2 ⟨rfl, hb2⟩
  have r2 := r1.kept hb2
  have k2 := Below.two k1 (Nat.le_refl _) hb2
  clear hb2 r1 k1
  go_wp2_with fail
  refine (times_any a b 0 _ HB.out (by decide)).mono ?_
  rintro e w3 ⟨rfl, hb3⟩
  have r3 := r2.kept hb3
  have k3 := Below.two k2 (Nat.le_refl _) hb3
  clear hb3 r2 k2
  go_wp2_with fail
  refine (qwide_any (a * b + 0) _ (Nat.lt_of_lt_of_le HV.out (by decide))).mono ?_
  rintro e w4 ⟨h, l, rfl, hh, hl, hn, hb4⟩
  have HH := Lib.hid hh
  have HL := Lib.hid hl
  have HN := Lib.hid hn
  have r4 := r3.kept hb4
  have k4 := Below.two k3 (Nat.le_refl _) hb4
  have s4 := r4.lt
  clear hb4 r3 k3 hh hl hn
  go_wp2_with (first
    | (with_reducible refine wpW_store rfl (.tmp 4) (.tmp 16) rfl w.heap.size rfl h l 0 0 rfl (r4.alloc _) ?_; intro w5 hp5))
  refine retW rfl rfl hp5.row ⟨h, l, rfl, HH.out, HL.out, ?_, hp5.below _ _ (Nat.le_refl _) (k4.alloc k4.size _)⟩
  rw [HN.out, Nat.mod_eq_of_lt HV.out, Nat.add_zero]

end Go.Proofs.Ytnhkecfapohlgaa

/-! package wide's scaled, Scale, MulDiv: their contracts, whatever the world. -/
namespace Go.Proofs.Ytnhkecfapohlgaa
open Go.RowKit

/-- What is handed back: the number, if it has no more than 128 bits. -/
def sclRes (v : Nat) (h l e : Nat) : Prop := if v < 2 ^ 128 then h * 2 ^ 64 + l = v ∧ e = 0 else h = 0 ∧ l = 0 ∧ e = 131

theorem sclRes_yes {v h l : Nat} (hv : v < 2 ^ 128) (hn : h * 2 ^ 64 + l = v) : sclRes v h l 0 := by unfold sclRes; rw [if_pos hv]; exact ⟨hn, rfl⟩
theorem sclRes_no {v : Nat} (hv : ¬ v < 2 ^ 128) : sclRes v 0 0 131 := by unfold sclRes; rw [if_neg hv]; exact ⟨rfl, rfl, rfl⟩
theorem scl_lt (n m d : Nat) (up : Bool) (hn : n < 2 ^ 128) (hm : m < 2 ^ 64) : n * m / d + 1 < 2 ^ 224 ∧ scl n m d up < 2 ^ 224 := by
  have h1 : n * m < 2 ^ 192 := Nat.lt_of_lt_of_le (Nat.mul_lt_mul'' hn hm) (by decide)
  have h2 := Nat.div_le_self (n * m) d
  have h3 : n * m / d + 1 < 2 ^ 224 := Nat.lt_of_le_of_lt (Nat.succ_le_of_lt (Nat.lt_of_le_of_lt h2 h1)) (by decide)
  refine ⟨h3, ?_⟩
  unfold scl
  split
  · exact h3
  · exact Nat.lt_trans (Nat.lt_succ_self _) h3

theorem times_one (q : Nat) (w : World) : Calls Try.prog 90 #[.agg (qA q), .int .u64 1, .int .u64 1] w fun e w' => e = .returned (.agg (qA (q + 1))) ∧ Below w.heap.size w w' := by
  have := times_any q 1 1 w (by decide) (by decide)
  rw [Nat.mul_one] at this
  exact this

set_option maxRecDepth 100000 in
set_option maxHeartbeats 1000000 in
theorem wscaled_any (h l n m d : Nat) (up : Bool) (w : World) (hh : h < 2 ^ 64) (hl : l < 2 ^ 64) (hn : h * 2 ^ 64 + l = n) (hm : m < 2 ^ 64) (hd0 : 0 < d) (hd : d < 2 ^ 64) :
    Calls Try.prog 83 #[.agg #[.int .u64 h, .int .u64 l], .int .u64 m, .int .u64 d, .bool up] w fun e w' =>
      ∃ h' l' c : Nat, e = .returned (.tuple #[.agg #[.int .u64 h', .int .u64 l'], .int .i64 c]) ∧ h' < 2 ^ 64 ∧ l' < 2 ^ 64 ∧ sclRes (scl n m d up) h' l' c ∧ Below w.heap.size w w' := by
  have HH := Lib.hid hh
  have HL := Lib.hid hl
  have HN := Lib.hid hn
  have HM := Lib.hid hm
  have HD0 := Lib.hid hd0
  have HD := Lib.hid hd
  have hV := scl_lt n m d up (show n < 2 ^ 128 by omega) hm
  have HNM := Lib.hid (show n * m + 0 < 2 ^ 224 from Nat.lt_of_lt_of_le (Nat.mul_lt_mul'' (show n < 2 ^ 128 by omega) hm) (by decide))
  have hz : ((d : Int) == 0) = false := by rw [beq_eq_false_iff_ne]; omega
  have HV1 := Lib.hid hV.1
  have HV2 := Lib.hid hV.2
  clear hh hl hn hm hd0 hd hV
  go_enter Try.func83, Try.ntmps83
  go_wp2_with fail
  refine (wof_any h l n _ HH.out HL.out HN.out).mono ?_
  rintro e w1 ⟨rfl, hb1⟩
  have r1 : IsW w1 (w.heap.size + 1) 0 0 := IsR.kept (by unfold IsR; exact (by repeat (first | (with_reducible refine heap_top _ _ _ ?_; first | (simp; done) | (simp; omega)) | rw [Below.heap_alloc _ _ _ (by first | (simp; done) | (simp; omega))]))) hb1
  have k1 : Below w.heap.size w w1 := Below.two (((Below.refl _ _).alloc (Nat.le_refl _) _).alloc (by simp) _) (Nat.le_refl _) hb1
  clear hb1
  go_wp2_with fail
  refine (times_any n m 0 _ HM.out (by decide)).mono ?_
  rintro e w2 ⟨rfl, hb2⟩
  have r2 := r1.kept hb2
  have k2 := Below.two k1 (Nat.le_refl _) hb2
  clear hb2 r1 k1
  go_wp2_with fail
  refine (over_any (n * m + 0) d _ HNM.out HD0.out HD.out).mono ?_
  rintro e w3 ⟨rfl, hb3⟩
  have r3 := r2.kept hb3
  have k3 := Below.two k2 (Nat.le_refl _) hb3
  have s3 := r3.lt
  clear hb3 r2 k2
  rw [Nat.add_zero]
  obtain ⟨q, hq⟩ : ∃ q, n * m / d = q := ⟨_, rfl⟩
  obtain ⟨r, hr⟩ : ∃ r, n * m % d = r := ⟨_, rfl⟩
  rw [hq, hr]
  have hscl : scl n m d up = q + (if up && r != 0 then 1 else 0) := by rw [← hq, ← hr]; rfl
  rw [hq] at HV1
  have HS := Lib.hid hscl
  clear hscl hq hr HNM
  cases up
  · have HE : Hid (scl n m d false = q) := HS.out.trans (by simp)
    clear HS HV1
    go_wp2_with (first
      | (with_reducible refine wpQ_store rfl (.tmp 10) (.tmp 24) rfl w3.heap.size rfl q 0 rfl (by unfold IsQ; rw [qA_zero]; unfold IsR; exact (by repeat (first | (with_reducible refine heap_top _ _ _ ?_; first | (simp; done) | (simp; omega)) | rw [Below.heap_alloc _ _ _ (by first | (simp; done) | (simp; omega))]))) ?_; intro w4 hp4; have r4 : IsW w4 (w.heap.size + 1) 0 0 := IsR.put (r3.alloc _) hp4 (by omega); have k4 := hp4.below w.heap.size w (by omega) (k3.alloc (by omega) _); have q4 := hp4.row)
      | (with_reducible refine wpQ_load rfl (.tmp 10) rfl w3.heap.size rfl q q4 ?_))
    refine (qwide_any q _ (by rw [← HE.out]; exact HV2.out)).mono ?_
    rintro e w5 ⟨h', l', rfl, hh', hl', hn', hb5⟩
    have HH' := Lib.hid hh'
    have HL' := Lib.hid hl'
    have HN' := Lib.hid hn'
    have r5 : IsW w5 (w.heap.size + 1) 0 0 := r4.kept hb5
    have k5 := Below.two k4 (Nat.le_refl _) hb5
    have s5 := r5.lt
    clear hb5 hh' hl' hn'
    by_cases hf : q < 2 ^ 128
    · rw [show few (q) = true from decide_eq_true hf]
      have HF := Lib.hid hf
      clear hf
      go_wp2_with (first
        | (with_reducible refine wpW_store rfl (.tmp 12) (.tmp 36) rfl w5.heap.size rfl h' l' 0 0 rfl (by (show (_ : World).heap[_]? = some _); repeat (first | (with_reducible refine heap_top _ _ _ ?_; first | (simp; done) | (simp; omega)) | rw [Below.heap_alloc _ _ _ (by first | (simp; done) | (simp; omega))])) ?_; intro w6 hp6; have r6 : IsW w6 (w.heap.size + 1) 0 0 := IsR.put (r5.alloc _) hp6 (by omega); have k6 := hp6.below w.heap.size w (by omega) (k5.alloc (by omega) _); have q6 := hp6.row)
        | (with_reducible refine wpW_load rfl (.tmp 12) rfl w5.heap.size rfl h' l' q6 ?_)
        | (with_reducible refine wpW_store rfl (.tmp 8) (.tmp 41) rfl (w.heap.size + 1) rfl h' l' 0 0 rfl r6 ?_; intro w7 hp7))
      refine retW1 rfl rfl (.int .i64 (0 : Nat)) rfl hp7.row ⟨h', l', 0, rfl, HH'.out, HL'.out, ?_, hp7.below _ _ (by omega) k6⟩
      rw [HE.out]
      exact (sclRes_yes HF.out (HN'.out.trans (Nat.mod_eq_of_lt HF.out)) : sclRes _ _ _ _)
    · rw [show few (q) = false from decide_eq_false hf]
      have HF := Lib.hid hf
      clear hf
      go_wp2_with (first
        | (with_reducible refine wpW_store rfl (.tmp 12) (.tmp 36) rfl w5.heap.size rfl h' l' 0 0 rfl (by (show (_ : World).heap[_]? = some _); repeat (first | (with_reducible refine heap_top _ _ _ ?_; first | (simp; done) | (simp; omega)) | rw [Below.heap_alloc _ _ _ (by first | (simp; done) | (simp; omega))])) ?_; intro w6 hp6; have r6 : IsW w6 (w.heap.size + 1) 0 0 := IsR.put (r5.alloc _) hp6 (by omega); have k6 := hp6.below w.heap.size w (by omega) (k5.alloc (by omega) _))
        | (with_reducible refine wpW_store rfl (.tmp 8) (.tmp 40) rfl (w.heap.size + 1) rfl 0 0 0 0 rfl r6 ?_; intro w7 hp7))
      refine retW1 rfl rfl (.int .i64 (131 : Nat)) rfl hp7.row ⟨0, 0, 131, rfl, by decide, by decide, ?_, hp7.below _ _ (by omega) k6⟩
      rw [HE.out]
      exact (sclRes_no HF.out : sclRes _ _ _ _)
  · by_cases hr0 : r = 0
    · have HE : Hid (scl n m d true = q) := HS.out.trans (by simp [hr0])
      have hr1 : ¬ (0 : Int) < (r : Int) := by omega
      clear HS HV1 hr0
      go_wp2_with (first
        | (with_reducible refine wpQ_store rfl (.tmp 10) (.tmp 24) rfl w3.heap.size rfl q 0 rfl (by unfold IsQ; rw [qA_zero]; unfold IsR; exact (by repeat (first | (with_reducible refine heap_top _ _ _ ?_; first | (simp; done) | (simp; omega)) | rw [Below.heap_alloc _ _ _ (by first | (simp; done) | (simp; omega))]))) ?_; intro w4 hp4; have r4 : IsW w4 (w.heap.size + 1) 0 0 := IsR.put (r3.alloc _) hp4 (by omega); have k4 := hp4.below w.heap.size w (by omega) (k3.alloc (by omega) _); have q4 := hp4.row)
        | (with_reducible refine wpQ_load rfl (.tmp 10) rfl w3.heap.size rfl q q4 ?_))
      refine (qwide_any q _ (by rw [← HE.out]; exact HV2.out)).mono ?_
      rintro e w5 ⟨h', l', rfl, hh', hl', hn', hb5⟩
      have HH' := Lib.hid hh'
      have HL' := Lib.hid hl'
      have HN' := Lib.hid hn'
      have r5 : IsW w5 (w.heap.size + 1) 0 0 := r4.kept hb5
      have k5 := Below.two k4 (Nat.le_refl _) hb5
      have s5 := r5.lt
      clear hb5 hh' hl' hn'
      by_cases hf : q < 2 ^ 128
      · rw [show few (q) = true from decide_eq_true hf]
        have HF := Lib.hid hf
        clear hf
        go_wp2_with (first
          | (with_reducible refine wpW_store rfl (.tmp 12) (.tmp 36) rfl w5.heap.size rfl h' l' 0 0 rfl (by (show (_ : World).heap[_]? = some _); repeat (first | (with_reducible refine heap_top _ _ _ ?_; first | (simp; done) | (simp; omega)) | rw [Below.heap_alloc _ _ _ (by first | (simp; done) | (simp; omega))])) ?_; intro w6 hp6; have r6 : IsW w6 (w.heap.size + 1) 0 0 := IsR.put (r5.alloc _) hp6 (by omega); have k6 := hp6.below w.heap.size w (by omega) (k5.alloc (by omega) _); have q6 := hp6.row)
          | (with_reducible refine wpW_load rfl (.tmp 12) rfl w5.heap.size rfl h' l' q6 ?_)
          | (with_reducible refine wpW_store rfl (.tmp 8) (.tmp 41) rfl (w.heap.size + 1) rfl h' l' 0 0 rfl r6 ?_; intro w7 hp7))
        refine retW1 rfl rfl (.int .i64 (0 : Nat)) rfl hp7.row ⟨h', l', 0, rfl, HH'.out, HL'.out, ?_, hp7.below _ _ (by omega) k6⟩
        rw [HE.out]
        exact (sclRes_yes HF.out (HN'.out.trans (Nat.mod_eq_of_lt HF.out)) : sclRes _ _ _ _)
      · rw [show few (q) = false from decide_eq_false hf]
        have HF := Lib.hid hf
        clear hf
        go_wp2_with (first
          | (with_reducible refine wpW_store rfl (.tmp 12) (.tmp 36) rfl w5.heap.size rfl h' l' 0 0 rfl (by (show (_ : World).heap[_]? = some _); repeat (first | (with_reducible refine heap_top _ _ _ ?_; first | (simp; done) | (simp; omega)) | rw [Below.heap_alloc _ _ _ (by first | (simp; done) | (simp; omega))])) ?_; intro w6 hp6; have r6 : IsW w6 (w.heap.size + 1) 0 0 := IsR.put (r5.alloc _) hp6 (by omega); have k6 := hp6.below w.heap.size w (by omega) (k5.alloc (by omega) _))
          | (with_reducible refine wpW_store rfl (.tmp 8) (.tmp 40) rfl (w.heap.size + 1) rfl 0 0 0 0 rfl r6 ?_; intro w7 hp7))
        refine retW1 rfl rfl (.int .i64 (131 : Nat)) rfl hp7.row ⟨0, 0, 131, rfl, by decide, by decide, ?_, hp7.below _ _ (by omega) k6⟩
        rw [HE.out]
        exact (sclRes_no HF.out : sclRes _ _ _ _)
    · have HE : Hid (scl n m d true = q + 1) := HS.out.trans (by simp [hr0])
      have hr1 : (0 : Int) < (r : Int) := by omega
      clear HS HV1 hr0
      go_wp2_with (first
        | (with_reducible refine wpQ_store rfl (.tmp 10) (.tmp 24) rfl w3.heap.size rfl q 0 rfl (by unfold IsQ; rw [qA_zero]; unfold IsR; exact (by repeat (first | (with_reducible refine heap_top _ _ _ ?_; first | (simp; done) | (simp; omega)) | rw [Below.heap_alloc _ _ _ (by first | (simp; done) | (simp; omega))]))) ?_; intro w4 hp4; have r4 : IsW w4 (w.heap.size + 1) 0 0 := IsR.put (r3.alloc _) hp4 (by omega); have k4 := hp4.below w.heap.size w (by omega) (k3.alloc (by omega) _); have q4 := hp4.row)
        | (with_reducible refine wpQ_load rfl (.tmp 10) rfl w3.heap.size rfl q q4 ?_))
      refine (times_one q _).mono ?_
      rintro e w8 ⟨rfl, hb8⟩
      have r8 : IsW w8 (w.heap.size + 1) 0 0 := r4.kept hb8
      have q8 : IsQ w8 w3.heap.size q := q4.kept hb8
      have k8 := Below.two k4 (Nat.le_refl _) hb8
      clear hb8 hp4 q4 r4 k4
      go_wp2_with (first
        | (with_reducible refine wpQ_store rfl (.tmp 10) (.tmp 32) rfl w3.heap.size rfl (q + 1) q rfl q8 ?_; intro w9 hp9; have rr : IsW w9 (w.heap.size + 1) 0 0 := IsR.put r8 hp9 (by omega); have kk := hp9.below w.heap.size w (by omega) k8; have q9 := hp9.row)
        | (with_reducible refine wpQ_load rfl (.tmp 10) rfl w3.heap.size rfl (q + 1) q9 ?_))
      refine (qwide_any (q + 1) _ (by rw [← HE.out]; exact HV2.out)).mono ?_
      rintro e w5 ⟨h', l', rfl, hh', hl', hn', hb5⟩
      have HH' := Lib.hid hh'
      have HL' := Lib.hid hl'
      have HN' := Lib.hid hn'
      have r5 : IsW w5 (w.heap.size + 1) 0 0 := rr.kept hb5
      have k5 := Below.two kk (Nat.le_refl _) hb5
      have s5 := r5.lt
      clear hb5 hh' hl' hn'
      by_cases hf : (q + 1) < 2 ^ 128
      · rw [show few (q + 1) = true from decide_eq_true hf]
        have HF := Lib.hid hf
        clear hf
        go_wp2_with (first
          | (with_reducible refine wpW_store rfl (.tmp 12) (.tmp 36) rfl w5.heap.size rfl h' l' 0 0 rfl (by (show (_ : World).heap[_]? = some _); repeat (first | (with_reducible refine heap_top _ _ _ ?_; first | (simp; done) | (simp; omega)) | rw [Below.heap_alloc _ _ _ (by first | (simp; done) | (simp; omega))])) ?_; intro w6 hp6; have r6 : IsW w6 (w.heap.size + 1) 0 0 := IsR.put (r5.alloc _) hp6 (by omega); have k6 := hp6.below w.heap.size w (by omega) (k5.alloc (by omega) _); have q6 := hp6.row)
          | (with_reducible refine wpW_load rfl (.tmp 12) rfl w5.heap.size rfl h' l' q6 ?_)
          | (with_reducible refine wpW_store rfl (.tmp 8) (.tmp 41) rfl (w.heap.size + 1) rfl h' l' 0 0 rfl r6 ?_; intro w7 hp7))
        refine retW1 rfl rfl (.int .i64 (0 : Nat)) rfl hp7.row ⟨h', l', 0, rfl, HH'.out, HL'.out, ?_, hp7.below _ _ (by omega) k6⟩
        rw [HE.out]
        exact (sclRes_yes HF.out (HN'.out.trans (Nat.mod_eq_of_lt HF.out)) : sclRes _ _ _ _)
      · rw [show few (q + 1) = false from decide_eq_false hf]
        have HF := Lib.hid hf
        clear hf
        go_wp2_with (first
          | (with_reducible refine wpW_store rfl (.tmp 12) (.tmp 36) rfl w5.heap.size rfl h' l' 0 0 rfl (by (show (_ : World).heap[_]? = some _); repeat (first | (with_reducible refine heap_top _ _ _ ?_; first | (simp; done) | (simp; omega)) | rw [Below.heap_alloc _ _ _ (by first | (simp; done) | (simp; omega))])) ?_; intro w6 hp6; have r6 : IsW w6 (w.heap.size + 1) 0 0 := IsR.put (r5.alloc _) hp6 (by omega); have k6 := hp6.below w.heap.size w (by omega) (k5.alloc (by omega) _))
          | (with_reducible refine wpW_store rfl (.tmp 8) (.tmp 40) rfl (w.heap.size + 1) rfl 0 0 0 0 rfl r6 ?_; intro w7 hp7))
        refine retW1 rfl rfl (.int .i64 (131 : Nat)) rfl hp7.row ⟨0, 0, 131, rfl, by decide, by decide, ?_, hp7.below _ _ (by omega) k6⟩
        rw [HE.out]
        exact (sclRes_no HF.out : sclRes _ _ _ _)

set_option maxRecDepth 100000 in
set_option maxHeartbeats 400000 in
theorem wScale_any (h l n m d : Nat) (w : World) (hh : h < 2 ^ 64) (hl : l < 2 ^ 64) (hn : h * 2 ^ 64 + l = n) (hm : m < 2 ^ 64) (hd0 : 0 < d) (hd : d < 2 ^ 64) :
    Calls Try.prog 71 #[.agg #[.int .u64 h, .int .u64 l], .int .u64 m, .int .u64 d] w fun e w' =>
      ∃ h' l' c : Nat, e = .returned (.tuple #[.agg #[.int .u64 h', .int .u64 l'], .int .i64 c]) ∧ h' < 2 ^ 64 ∧ l' < 2 ^ 64 ∧ sclRes (scl n m d true) h' l' c ∧ Below w.heap.size w w' := by
  have HC := Lib.hid (fun w => wscaled_any h l n m d true w hh hl hn hm hd0 hd)
  clear hh hl hn hm hd0 hd
  go_enter Try.func71, Try.ntmps71
  go_wp2_with fail
  refine (HC.out _).mono ?_
  rintro e w1 ⟨h', l', c, rfl, hh', hl', hs', hb1⟩
  have HH' := Lib.hid hh'
  have HL' := Lib.hid hl'
  have r1 : IsW w1 (w.heap.size + 1) 0 0 := IsR.kept (by unfold IsR; exact (by repeat (first | (with_reducible refine heap_top _ _ _ ?_; first | (simp; done) | (simp; omega)) | rw [Below.heap_alloc _ _ _ (by first | (simp; done) | (simp; omega))]))) hb1
  have k1 : Below w.heap.size w w1 := Below.two (((Below.refl _ _).alloc (Nat.le_refl _) _).alloc (by simp) _) (Nat.le_refl _) hb1
  clear hb1 hh' hl'
  go_wp2_with (first
    | (with_reducible refine wpW_store rfl (.tmp 6) (.tmp 12) rfl (w.heap.size + 1) rfl h' l' 0 0 rfl r1 ?_; intro w2 hp2))
  exact retW1 rfl rfl (.int .i64 c) rfl hp2.row ⟨h', l', c, rfl, HH'.out, HL'.out, hs', hp2.below _ _ (by omega) k1⟩

end Go.Proofs.Ytnhkecfapohlgaa

/-! package wide's MulDiv: its contract, whatever the world. -/
namespace Go.Proofs.Ytnhkecfapohlgaa
open Go.RowKit

/-- What is handed back: the number, if it has no more than 64 bits. -/
def mdRes (v : Nat) (x e : Nat) : Prop := if v < 2 ^ 64 then x = v ∧ e = 0 else x = 0 ∧ e = 131

end Go.Proofs.Ytnhkecfapohlgaa

/-! The chapter's wakes: it answers true. -/
namespace Go.Proofs.Ytnhkecfapohlgaa
open Go.RowKit

theorem of_parts (h l H L : Nat) (hl : l < 2 ^ 64) (hL : L < 2 ^ 64) (e : h * 2 ^ 64 + l = H * 2 ^ 64 + L) : h = H ∧ l = L := by omega

section
variable {ops : Array Oper} {C : (Nat → Bool) → World → Prop} {Q : Act → Prop} {o : Oper} {rest : List Oper} {i : Nat} {a : Act}
end

end Go.Proofs.Ytnhkecfapohlgaa

/-! package wide's Compare, and the library's cmp.Compare, cmp.Or: their contracts, whatever the world. -/
namespace Go.Proofs.Ytnhkecfapohlgaa
open Go.RowKit

/-- How numbers stand to one another. -/
def c3 (a b : Int) : Int := if a < b then -1 else if b < a then 1 else 0
/-- The first that is not 0. -/
def orI : List Int → Int
  | [] => 0
  | z :: r => if z = 0 then orI r else z

set_option maxRecDepth 100000 in
theorem ccmp_any (a b : Int) (w : World) :
    Calls Try.prog 73 #[.int .u64 a, .int .u64 b] w fun e w' => e = .returned (.int .i64 (c3 a b)) ∧ w' = w := by
  by_cases h1 : a < b
  · have H : Hid (c3 a b = -1) := if_pos h1
    go_enter Try.func73, Try.ntmps73
    go_wp2
    go_ret
    exact ⟨by rw [H.out]; rfl, rfl⟩
  · by_cases h2 : b < a
    · have H : Hid (c3 a b = 1) := (if_neg h1).trans (if_pos h2)
      go_enter Try.func73, Try.ntmps73
      go_wp2
      go_ret
      exact ⟨by rw [H.out]; rfl, rfl⟩
    · have H : Hid (c3 a b = 0) := (if_neg h1).trans (if_neg h2)
      go_enter Try.func73, Try.ntmps73
      go_wp2
      go_ret
      exact ⟨by rw [H.out]; rfl, rfl⟩

theorem orI_drop (zs : List Int) (k : Nat) (hk : k < zs.length) : orI (zs.drop k) = if zs[k] = 0 then orI (zs.drop (k + 1)) else zs[k] := by
  rw [List.drop_eq_getElem_cons hk]; rfl

set_option maxRecDepth 100000 in
set_option maxHeartbeats 400000 in
theorem cor_any (zs : List Int) (g : Nat) (w : World) (hlen : zs.length < 1000) (hg : IsR w g (zs.map (Value.int .i64)).toArray 3) :
    Calls Try.prog 72 #[.slice (some ⟨g, 0, none⟩) zs.length zs.length] w fun e w' => e = .returned (.int .i64 (orI zs)) ∧ w' = w := by
  have hc : ∀ j (h : j < zs.length), w.cell? ⟨g, j, none⟩ = some (.int .i64 zs[j]) := fun j h => by rw [hg.cell j]; simp [h]
  have HC := Lib.hid hc
  clear hc hg
  obtain ⟨n, hn⟩ : ∃ n, zs.length = n := ⟨_, rfl⟩
  rw [hn] at hlen
  rw [hn]
  have HN := Lib.hid hn
  clear hn
  have hlen' : (n : Int) < 1000 := by omega
  go_enter Try.func72, Try.ntmps72
  go_wp2
  go_loop [8] (fun t => ∃ k : Nat, k ≤ n ∧ t = .int .i64 k ∧ Hid (orI (zs.drop k) = orI zs)) (fun t => n - (intOf t).toNat)
  case atStart => exact ⟨0, by omega, rfl, (rfl : _ = _)⟩
  case round =>
    obtain ⟨k, hk, rfl, HK⟩ := hrel
    by_cases hlt : k < n
    · have hlt' : (k : Int) < (n : Int) := by omega
      have hkz : k < zs.length := by rw [HN.out]; exact hlt
      have hcell := HC.out k hkz
      have HD := Lib.hid (orI_drop zs k hkz)
      generalize zs[k] = z at hcell HD
      clear hkz
      by_cases hz : z = 0
      · subst hz
        have HK2 : Hid (orI (zs.drop (k + 1)) = orI zs) := by show _ = _; rw [← HK.out, HD.out, if_pos rfl]
        go_wp2
        go_round
        case rel => exact ⟨k + 1, by omega, by go_num, HK2⟩
        case measure => simp [intOf]; omega
      · have hz' : (z == 0) = false := by simpa using hz
        have hz'' : (z != 0) = true := by simpa using hz
        have HK2 : Hid (orI zs = z) := by show _ = _; rw [← HK.out, HD.out, if_neg hz]
        clear hz
        go_wp2
        go_ret
        exact ⟨by rw [HK2.out]; rfl, rfl⟩
    · have hlt' : (n : Int) ≤ (k : Int) := by omega
      have HK2 : Hid (orI zs = 0) := by show _ = _; rw [← HK.out, List.drop_eq_nil_of_le (by rw [HN.out]; omega)]; rfl
      go_wp2
      go_ret
      exact ⟨by rw [HK2.out]; rfl, rfl⟩

/-- How two numbers of two halves stand to one another. -/
def cW (h l H L : Int) : Int := orI [c3 h H, c3 l L]

set_option maxRecDepth 100000 in
set_option maxHeartbeats 400000 in
theorem wCompare_any (h l H L : Int) (w : World) :
    Calls Try.prog 40 #[.agg #[.int .u64 h, .int .u64 l], .agg #[.int .u64 H, .int .u64 L]] w fun e w' => e = .returned (.int .i64 (cW h l H L)) ∧ Below w.heap.size w w' := by
  go_enter Try.func40, Try.ntmps40
  go_wp2_with fail
  have fA : IsW ((w.alloc (Obj.cells #[.int .u64 h, .int .u64 l] 31)).alloc (Obj.cells #[.int .u64 H, .int .u64 L] 31)) w.heap.size h l := by unfold IsW IsR; exact (by repeat (first | (with_reducible refine heap_top _ _ _ ?_; first | (simp; done) | (simp; omega)) | rw [Below.heap_alloc _ _ _ (by first | (simp; done) | (simp; omega))]))
  have fB : IsW ((w.alloc (Obj.cells #[.int .u64 h, .int .u64 l] 31)).alloc (Obj.cells #[.int .u64 H, .int .u64 L] 31)) (w.heap.size + 1) H L := by unfold IsW IsR; exact (by repeat (first | (with_reducible refine heap_top _ _ _ ?_; first | (simp; done) | (simp; omega)) | rw [Below.heap_alloc _ _ _ (by first | (simp; done) | (simp; omega))]))
  have k0 : Below w.heap.size w ((w.alloc (Obj.cells #[.int .u64 h, .int .u64 l] 31)).alloc (Obj.cells #[.int .u64 H, .int .u64 L] 31)) := ((Below.refl _ _).alloc (Nat.le_refl _) _).alloc (by simp) _
  generalize (w.alloc (Obj.cells #[.int .u64 h, .int .u64 l] 31)).alloc (Obj.cells #[.int .u64 H, .int .u64 L] 31) = W at fA fB k0 ⊢
  have cA := IsR.cell fA
  have cB := IsR.cell fB
  refine wp_region_still_tail 10 (by kernel_rfl) (by kernel_rfl) ?_
  change wpStill _ _ (World.drew W) _ _ _
  simp only [List.take_succ_cons, List.take_zero, List.drop_succ_cons, List.drop_zero]
  iterate 4 still_step
  still_call (ccmp_any h H _)
  iterate 4 still_step
  still_call (ccmp_any l L _)
  refine wpStill_nil ?_
  change wpList _ _ _ _ _ (World.drew _)
  go_wp2_with fail
  refine (cor_any [c3 h H, c3 l L] W.heap.size _ (by simp) ?_).mono ?_
  · exact heap_top W (Obj.cells #[.int .i64 (c3 h H), .int .i64 (c3 l L)] 3) _ rfl
  rintro e w' ⟨rfl, rfl⟩
  go_wp2_with fail
  go_ret
  exact ⟨rfl, (k0.alloc k0.size _).drew⟩

theorem cW_eq (h l H L n m : Nat) (hl : l < 2 ^ 64) (hL : L < 2 ^ 64) (hn : h * 2 ^ 64 + l = n) (hm : H * 2 ^ 64 + L = m) : cW h l H L = c3 n m := by
  unfold cW orI orI orI c3
  rcases Nat.lt_trichotomy n m with h1 | h1 | h1
  · rw [if_pos (show (n : Int) < m by omega)]
    by_cases h2 : (h : Int) < H
    · rw [if_pos h2]; simp
    · rw [if_neg h2, if_neg (show ¬ (H : Int) < h by omega), if_pos rfl, if_pos (show (l : Int) < L by omega)]; simp
  · rw [if_neg (show ¬ (n : Int) < m by omega), if_neg (show ¬ (m : Int) < n by omega), if_neg (show ¬ (h : Int) < H by omega), if_neg (show ¬ (H : Int) < h by omega), if_pos rfl, if_neg (show ¬ (l : Int) < L by omega), if_neg (show ¬ (L : Int) < l by omega)]
    rfl
  · rw [if_neg (show ¬ (n : Int) < m by omega), if_pos (show (m : Int) < n by omega), if_neg (show ¬ (h : Int) < H by omega)]
    by_cases h2 : (H : Int) < h
    · rw [if_pos h2]; simp
    · rw [if_neg h2, if_pos rfl, if_neg (show ¬ (l : Int) < L by omega), if_pos (show (L : Int) < l by omega)]; simp
theorem c3_neg (a b : Int) : c3 a b < 0 ↔ a < b := by
  unfold c3; split
  · simp [*]
  · split <;> simp [*]

end Go.Proofs.Ytnhkecfapohlgaa

/-! package wide's Add and Sub: their contracts, whatever the world. -/
namespace Go.Proofs.Ytnhkecfapohlgaa
open Go.RowKit

theorem add_over (h l H L x y x' n m : Nat) (hh : h < 2 ^ 64) (hl : l < 2 ^ 64) (hH : H < 2 ^ 64) (hL : L < 2 ^ 64) (hn : h * 2 ^ 64 + l = n) (hm : H * 2 ^ 64 + L = m) (hx : x = (h + H) % 2 ^ 64) (hy : y = (l + L) % 2 ^ 64) (hx' : x' = if y < l then (x + 1) % 2 ^ 64 else x) :
    (x' * 2 ^ 64 + y < n ∨ x' < H ↔ ¬ n + m < 2 ^ 128) ∧ (n + m < 2 ^ 128 → x' * 2 ^ 64 + y = n + m) := by
  split at hx' <;> omega

set_option maxRecDepth 100000 in
set_option maxHeartbeats 400000 in
theorem wAdd_any (h l n H L m : Nat) (w : World) (hh : h < 2 ^ 64) (hl : l < 2 ^ 64) (hn : h * 2 ^ 64 + l = n) (hH : H < 2 ^ 64) (hL : L < 2 ^ 64) (hm : H * 2 ^ 64 + L = m) :
    Calls Try.prog 47 #[.agg #[.int .u64 h, .int .u64 l], .agg #[.int .u64 H, .int .u64 L]] w fun e w' =>
      ∃ h' l' c : Nat, e = .returned (.tuple #[.agg #[.int .u64 h', .int .u64 l'], .int .i64 c]) ∧ h' < 2 ^ 64 ∧ l' < 2 ^ 64 ∧ sclRes (n + m) h' l' c ∧ Below w.heap.size w w' := by
  obtain ⟨x, hx⟩ : ∃ x, x = (h + H) % 2 ^ 64 := ⟨_, rfl⟩
  obtain ⟨y, hy⟩ : ∃ y, y = (l + L) % 2 ^ 64 := ⟨_, rfl⟩
  have hw1 : IntKind.u64.wrap ((h : Int) + H) = (x : Int) := by rw [IntKind.wrap_u64]; omega
  have hw2 : IntKind.u64.wrap ((l : Int) + L) = (y : Int) := by rw [IntKind.wrap_u64]; omega
  obtain ⟨x', hx'⟩ : ∃ x', x' = if y < l then (x + 1) % 2 ^ 64 else x := ⟨_, rfl⟩
  obtain ⟨o1, o2⟩ := add_over h l H L x y x' n m hh hl hH hL hn hm hx hy hx'
  have hy64 : y < 2 ^ 64 := by omega
  have hx64 : x < 2 ^ 64 := by omega
  have hx'64 : x' < 2 ^ 64 := by rw [hx']; split <;> omega
  have hcw : cW x' y h l < 0 ↔ x' * 2 ^ 64 + y < n := by rw [cW_eq x' y h l _ _ hy64 hl rfl hn, c3_neg]; omega
  have HW := Lib.hid hcw
  have HO1 := Lib.hid o1
  have HO2 := Lib.hid o2
  have HX := Lib.hid hx'64
  have HY := Lib.hid hy64
  have hxs : (if y < l then IntKind.u64.wrap ((x : Int) + 1) else (x : Int)) = (x' : Int) := by
    rw [hx']; split
    · rw [IntKind.wrap_u64]; omega
    · rfl
  clear hx hy hcw o1 o2 hx'64 hy64 hx64 hh hl hH hL hx' hn hm
  by_cases hc : y < l
  · rw [if_pos hc] at hxs
    have hc' : (y : Int) < (l : Int) := by omega
    clear hc
    go_enter Try.func47, Try.ntmps47
    go_wp2_with fail
    refine (wCompare_any x' y h l _).mono ?_
    rintro e w1 ⟨rfl, hb1⟩
    have r1 : IsW w1 (w.heap.size + 1) H L := IsR.kept (by unfold IsR; exact (by repeat (first | (with_reducible refine heap_top _ _ _ ?_; first | (simp; done) | (simp; omega)) | rw [Below.heap_alloc _ _ _ (by first | (simp; done) | (simp; omega))]))) hb1
    have r2 : IsW w1 (w.heap.size + 1 + 1) 0 0 := IsR.kept (by unfold IsR; exact (by repeat (first | (with_reducible refine heap_top _ _ _ ?_; first | (simp; done) | (simp; omega)) | rw [Below.heap_alloc _ _ _ (by first | (simp; done) | (simp; omega))]))) hb1
    have r3 : IsW w1 (w.heap.size + 1 + 1 + 1) x' y := IsR.kept (by unfold IsR; exact (by repeat (first | (with_reducible refine heap_top _ _ _ ?_; first | (simp; done) | (simp; omega)) | rw [Below.heap_alloc _ _ _ (by first | (simp; done) | (simp; omega))]))) hb1
    have k1 : Below w.heap.size w w1 := Below.two (((((Below.refl _ _).alloc (Nat.le_refl _) _).alloc (by simp) _).alloc (by simp; omega) _).alloc (by simp; omega) _) (Nat.le_refl _) hb1
    have c1 := IsR.cell r1
    have c3 := IsR.cell r3
    clear hb1 r1
    generalize cW x' y h l = z at HW ⊢
    by_cases hz : z < 0
    · have HF : Hid (¬ n + m < 2 ^ 128) := HO1.out.1 (.inl (HW.out.1 hz))
      go_wp2_with (first
        | (with_reducible refine wpW_store rfl (.tmp 4) (.tmp 38) rfl (w.heap.size + 1 + 1) rfl 0 0 0 0 rfl r2 ?_; intro w2 hp2))
      refine retW1 rfl rfl (.int .i64 (131 : Nat)) rfl hp2.row ⟨0, 0, 131, rfl, by decide, by decide, (sclRes_no HF.out : sclRes _ _ _ _), hp2.below _ _ (by omega) k1⟩
    · by_cases hx : (x' : Int) < H
      · have HF : Hid (¬ n + m < 2 ^ 128) := HO1.out.1 (.inr (by omega))
        go_wp2_with (first
          | (with_reducible refine wpW_store rfl (.tmp 4) (.tmp 38) rfl (w.heap.size + 1 + 1) rfl 0 0 0 0 rfl r2 ?_; intro w2 hp2))
        refine retW1 rfl rfl (.int .i64 (131 : Nat)) rfl hp2.row ⟨0, 0, 131, rfl, by decide, by decide, (sclRes_no HF.out : sclRes _ _ _ _), hp2.below _ _ (by omega) k1⟩
      · have HF : Hid (n + m < 2 ^ 128) := Classical.byContradiction fun hcon => by
          rcases HO1.out.2 hcon with h | h
          · exact hz (HW.out.2 h)
          · exact hx (by omega)
        go_wp2_with (first
          | (with_reducible refine wpW_load rfl (.tmp 6) rfl (w.heap.size + 1 + 1 + 1) rfl x' y r3 ?_)
          | (with_reducible refine wpW_store rfl (.tmp 4) (.tmp 39) rfl (w.heap.size + 1 + 1) rfl x' y 0 0 rfl r2 ?_; intro w2 hp2))
        refine retW1 rfl rfl (.int .i64 (0 : Nat)) rfl hp2.row ⟨x', y, 0, rfl, HX.out, HY.out, (sclRes_yes HF.out (HO2.out HF.out) : sclRes _ _ _ _), hp2.below _ _ (by omega) k1⟩
  · rw [if_neg hc] at hxs
    have hc' : ¬ (y : Int) < (l : Int) := by omega
    obtain rfl : x = x' := by omega
    clear hc hxs
    go_enter Try.func47, Try.ntmps47
    go_wp2_with fail
    refine (wCompare_any x y h l _).mono ?_
    rintro e w1 ⟨rfl, hb1⟩
    have r1 : IsW w1 (w.heap.size + 1) H L := IsR.kept (by unfold IsR; exact (by repeat (first | (with_reducible refine heap_top _ _ _ ?_; first | (simp; done) | (simp; omega)) | rw [Below.heap_alloc _ _ _ (by first | (simp; done) | (simp; omega))]))) hb1
    have r2 : IsW w1 (w.heap.size + 1 + 1) 0 0 := IsR.kept (by unfold IsR; exact (by repeat (first | (with_reducible refine heap_top _ _ _ ?_; first | (simp; done) | (simp; omega)) | rw [Below.heap_alloc _ _ _ (by first | (simp; done) | (simp; omega))]))) hb1
    have r3 : IsW w1 (w.heap.size + 1 + 1 + 1) x y := IsR.kept (by unfold IsR; exact (by repeat (first | (with_reducible refine heap_top _ _ _ ?_; first | (simp; done) | (simp; omega)) | rw [Below.heap_alloc _ _ _ (by first | (simp; done) | (simp; omega))]))) hb1
    have k1 : Below w.heap.size w w1 := Below.two (((((Below.refl _ _).alloc (Nat.le_refl _) _).alloc (by simp) _).alloc (by simp; omega) _).alloc (by simp; omega) _) (Nat.le_refl _) hb1
    have c1 := IsR.cell r1
    have c3 := IsR.cell r3
    clear hb1 r1
    generalize cW x y h l = z at HW ⊢
    by_cases hz : z < 0
    · have HF : Hid (¬ n + m < 2 ^ 128) := HO1.out.1 (.inl (HW.out.1 hz))
      go_wp2_with (first
        | (with_reducible refine wpW_store rfl (.tmp 4) (.tmp 38) rfl (w.heap.size + 1 + 1) rfl 0 0 0 0 rfl r2 ?_; intro w2 hp2))
      refine retW1 rfl rfl (.int .i64 (131 : Nat)) rfl hp2.row ⟨0, 0, 131, rfl, by decide, by decide, (sclRes_no HF.out : sclRes _ _ _ _), hp2.below _ _ (by omega) k1⟩
    · by_cases hx : (x : Int) < H
      · have HF : Hid (¬ n + m < 2 ^ 128) := HO1.out.1 (.inr (by omega))
        go_wp2_with (first
          | (with_reducible refine wpW_store rfl (.tmp 4) (.tmp 38) rfl (w.heap.size + 1 + 1) rfl 0 0 0 0 rfl r2 ?_; intro w2 hp2))
        refine retW1 rfl rfl (.int .i64 (131 : Nat)) rfl hp2.row ⟨0, 0, 131, rfl, by decide, by decide, (sclRes_no HF.out : sclRes _ _ _ _), hp2.below _ _ (by omega) k1⟩
      · have HF : Hid (n + m < 2 ^ 128) := Classical.byContradiction fun hcon => by
          rcases HO1.out.2 hcon with h | h
          · exact hz (HW.out.2 h)
          · exact hx (by omega)
        go_wp2_with (first
          | (with_reducible refine wpW_load rfl (.tmp 6) rfl (w.heap.size + 1 + 1 + 1) rfl x y r3 ?_)
          | (with_reducible refine wpW_store rfl (.tmp 4) (.tmp 39) rfl (w.heap.size + 1 + 1) rfl x y 0 0 rfl r2 ?_; intro w2 hp2))
        refine retW1 rfl rfl (.int .i64 (0 : Nat)) rfl hp2.row ⟨x, y, 0, rfl, HX.out, HY.out, (sclRes_yes HF.out (HO2.out HF.out) : sclRes _ _ _ _), hp2.below _ _ (by omega) k1⟩

theorem sub_res (h l H L x y x' n m : Nat) (hl : l < 2 ^ 64) (hL : L < 2 ^ 64) (hn : h * 2 ^ 64 + l = n) (hm : H * 2 ^ 64 + L = m) (hle : m ≤ n) (hx : x = h - H)
    (hy : y = if l < L then l + 2 ^ 64 - L else l - L) (hx' : x' = if l < L then x - 1 else x) : x' * 2 ^ 64 + y = n - m ∧ H ≤ h ∧ y < 2 ^ 64 ∧ (l < L → 1 ≤ x) := by
  split at hx' <;> simp [*] at hy <;> omega

set_option maxRecDepth 100000 in
set_option maxHeartbeats 400000 in
theorem wSub_no (h l n H L m : Nat) (w : World) (hl : l < 2 ^ 64) (hn : h * 2 ^ 64 + l = n) (hL : L < 2 ^ 64) (hm : H * 2 ^ 64 + L = m) (hlt : n < m) :
    Calls Try.prog 42 #[.agg #[.int .u64 h, .int .u64 l], .agg #[.int .u64 H, .int .u64 L]] w fun e w' =>
      e = .returned (.tuple #[.agg #[.int .u64 0, .int .u64 0], .int .i64 131]) ∧ Below w.heap.size w w' := by
  have HW := Lib.hid (show cW h l H L < 0 by rw [cW_eq h l H L n m hl hL hn hm, c3_neg]; omega)
  clear hl hn hL hm hlt
  go_enter Try.func42, Try.ntmps42
  go_wp2_with fail
  refine (wCompare_any h l H L _).mono ?_
  rintro e w1 ⟨rfl, hb1⟩
  have r0 : IsW w1 w.heap.size h l := IsR.kept (by unfold IsR; exact (by repeat (first | (with_reducible refine heap_top _ _ _ ?_; first | (simp; done) | (simp; omega)) | rw [Below.heap_alloc _ _ _ (by first | (simp; done) | (simp; omega))]))) hb1
  have r1 : IsW w1 (w.heap.size + 1) H L := IsR.kept (by unfold IsR; exact (by repeat (first | (with_reducible refine heap_top _ _ _ ?_; first | (simp; done) | (simp; omega)) | rw [Below.heap_alloc _ _ _ (by first | (simp; done) | (simp; omega))]))) hb1
  have r2 : IsW w1 (w.heap.size + 1 + 1) 0 0 := IsR.kept (by unfold IsR; exact (by repeat (first | (with_reducible refine heap_top _ _ _ ?_; first | (simp; done) | (simp; omega)) | rw [Below.heap_alloc _ _ _ (by first | (simp; done) | (simp; omega))]))) hb1
  have k1 : Below w.heap.size w w1 := Below.two ((((Below.refl _ _).alloc (Nat.le_refl _) _).alloc (by simp) _).alloc (by simp; omega) _) (Nat.le_refl _) hb1
  have c0 := IsR.cell r0
  have c1 := IsR.cell r1
  have s2 := IsR.lt r2
  have s1 := IsR.lt r1
  have s0 := IsR.lt r0
  clear hb1 r0 r1
  generalize cW h l H L = z at HW ⊢
  have hz : z < 0 := HW.out
  go_wp2_with (first
    | (with_reducible refine wpW_store rfl (.tmp 4) (.tmp 11) rfl (w.heap.size + 1 + 1) rfl 0 0 0 0 rfl r2 ?_; intro w2 hp2))
  exact retW1 rfl rfl (.int .i64 131) rfl hp2.row ⟨rfl, hp2.below _ _ (by omega) k1⟩

set_option maxRecDepth 100000 in
set_option maxHeartbeats 400000 in
theorem wSub_yes (h l n H L m : Nat) (w : World) (hh : h < 2 ^ 64) (hl : l < 2 ^ 64) (hn : h * 2 ^ 64 + l = n) (hH : H < 2 ^ 64) (hL : L < 2 ^ 64) (hm : H * 2 ^ 64 + L = m) (hle : m ≤ n) :
    Calls Try.prog 42 #[.agg #[.int .u64 h, .int .u64 l], .agg #[.int .u64 H, .int .u64 L]] w fun e w' =>
      ∃ h' l' : Nat, e = .returned (.tuple #[.agg #[.int .u64 h', .int .u64 l'], .int .i64 0]) ∧ h' < 2 ^ 64 ∧ l' < 2 ^ 64 ∧ h' * 2 ^ 64 + l' = n - m ∧ Below w.heap.size w w' := by
  have HW := Lib.hid (show ¬ cW h l H L < 0 by rw [cW_eq h l H L n m hl hL hn hm, c3_neg]; omega)
  obtain ⟨x, hx⟩ : ∃ x, x = h - H := ⟨_, rfl⟩
  obtain ⟨y, hy⟩ : ∃ y, y = if l < L then l + 2 ^ 64 - L else l - L := ⟨_, rfl⟩
  obtain ⟨x', hx'⟩ : ∃ x', x' = if l < L then x - 1 else x := ⟨_, rfl⟩
  obtain ⟨o1, o2, o3, o4⟩ := sub_res h l H L x y x' n m hl hL hn hm hle hx hy hx'
  have HN := Lib.hid o1
  have HY := Lib.hid o3
  have HX := Lib.hid (show x' < 2 ^ 64 by split at hx' <;> omega)
  have e1' : IntKind.u64.wrap ((h : Int) - H) = (x : Int) := by rw [IntKind.wrap_u64]; omega
  by_cases hc : l < L
  · rw [if_pos hc] at hy hx'
    have hc' : (l : Int) < (L : Int) := by omega
    have e2 : IntKind.u64.wrap ((l : Int) - L) = (y : Int) := by rw [IntKind.wrap_u64]; omega
    have e3' : IntKind.u64.wrap ((x : Int) - 1) = (x' : Int) := by rw [IntKind.wrap_u64]; have := HX.out; have := o4 hc; omega
    clear hy hx' hx o1 o2 o3 o4 hc hh hl hn hH hL hm hle
    go_enter Try.func42, Try.ntmps42
    go_wp2_with fail
    refine (wCompare_any h l H L _).mono ?_
    rintro e w1 ⟨rfl, hb1⟩
    have r0 : IsW w1 w.heap.size h l := IsR.kept (by unfold IsR; exact (by repeat (first | (with_reducible refine heap_top _ _ _ ?_; first | (simp; done) | (simp; omega)) | rw [Below.heap_alloc _ _ _ (by first | (simp; done) | (simp; omega))]))) hb1
    have r1 : IsW w1 (w.heap.size + 1) H L := IsR.kept (by unfold IsR; exact (by repeat (first | (with_reducible refine heap_top _ _ _ ?_; first | (simp; done) | (simp; omega)) | rw [Below.heap_alloc _ _ _ (by first | (simp; done) | (simp; omega))]))) hb1
    have r2 : IsW w1 (w.heap.size + 1 + 1) 0 0 := IsR.kept (by unfold IsR; exact (by repeat (first | (with_reducible refine heap_top _ _ _ ?_; first | (simp; done) | (simp; omega)) | rw [Below.heap_alloc _ _ _ (by first | (simp; done) | (simp; omega))]))) hb1
    have k1 : Below w.heap.size w w1 := Below.two ((((Below.refl _ _).alloc (Nat.le_refl _) _).alloc (by simp) _).alloc (by simp; omega) _) (Nat.le_refl _) hb1
    have c0 := IsR.cell r0
    have c1 := IsR.cell r1
    have s2 := IsR.lt r2
    have s1 := IsR.lt r1
    have s0 := IsR.lt r0
    clear hb1 r0 r1
    generalize cW h l H L = z at HW ⊢
    have hz : ¬ z < 0 := by have := HW.out; omega
    go_wp2_with (first
      | (with_reducible refine wpW_store rfl (.tmp 4) (.tmp 32) rfl (w.heap.size + 1 + 1) rfl x' y 0 0 rfl (IsR.alloc r2 _) ?_; intro w2 hp2))
    exact retW1 rfl rfl (.int .i64 0) rfl hp2.row ⟨x', y, rfl, HX.out, HY.out, HN.out, hp2.below _ _ (by omega) (k1.alloc k1.size _)⟩
  · rw [if_neg hc] at hy hx'
    have hc' : ¬ (l : Int) < (L : Int) := by omega
    have e2 : IntKind.u64.wrap ((l : Int) - L) = (y : Int) := by rw [IntKind.wrap_u64]; omega
    obtain rfl : x = x' := hx'.symm
    clear hy hx o1 o2 o3 o4 hc hh hl hn hH hL hm hle
    go_enter Try.func42, Try.ntmps42
    go_wp2_with fail
    refine (wCompare_any h l H L _).mono ?_
    rintro e w1 ⟨rfl, hb1⟩
    have r0 : IsW w1 w.heap.size h l := IsR.kept (by unfold IsR; exact (by repeat (first | (with_reducible refine heap_top _ _ _ ?_; first | (simp; done) | (simp; omega)) | rw [Below.heap_alloc _ _ _ (by first | (simp; done) | (simp; omega))]))) hb1
    have r1 : IsW w1 (w.heap.size + 1) H L := IsR.kept (by unfold IsR; exact (by repeat (first | (with_reducible refine heap_top _ _ _ ?_; first | (simp; done) | (simp; omega)) | rw [Below.heap_alloc _ _ _ (by first | (simp; done) | (simp; omega))]))) hb1
    have r2 : IsW w1 (w.heap.size + 1 + 1) 0 0 := IsR.kept (by unfold IsR; exact (by repeat (first | (with_reducible refine heap_top _ _ _ ?_; first | (simp; done) | (simp; omega)) | rw [Below.heap_alloc _ _ _ (by first | (simp; done) | (simp; omega))]))) hb1
    have k1 : Below w.heap.size w w1 := Below.two ((((Below.refl _ _).alloc (Nat.le_refl _) _).alloc (by simp) _).alloc (by simp; omega) _) (Nat.le_refl _) hb1
    have c0 := IsR.cell r0
    have c1 := IsR.cell r1
    have s2 := IsR.lt r2
    have s1 := IsR.lt r1
    have s0 := IsR.lt r0
    clear hb1 r0 r1
    generalize cW h l H L = z at HW ⊢
    have hz : ¬ z < 0 := by have := HW.out; omega
    go_wp2_with (first
      | (with_reducible refine wpW_store rfl (.tmp 4) (.tmp 32) rfl (w.heap.size + 1 + 1) rfl x y 0 0 rfl (IsR.alloc r2 _) ?_; intro w2 hp2))
    exact retW1 rfl rfl (.int .i64 0) rfl hp2.row ⟨x, y, rfl, HX.out, HY.out, HN.out, hp2.below _ _ (by omega) (k1.alloc k1.size _)⟩
end Go.Proofs.Ytnhkecfapohlgaa

/-! The contracts of wide and of its reference, one value each. -/
namespace Go.Proofs.Ytnhkecfapohlgaa
open Go Go.RowKit

/-- A function's contract where the answer is one value and memory grows at most. -/
def Dt (f : FuncId) (args : Array Value) (v : Value) : Prop := ∀ w, Calls Try.prog f args w fun e w' => e = .returned v ∧ Below w.heap.size w w'
abbrev wv (h l : Nat) : Value := .agg #[.int .u64 h, .int .u64 l]

theorem dMul {a b h l : Nat} (ha : a < 2 ^ 64) (hb : b < 2 ^ 64) (hl : l < 2 ^ 64) (e : h * 2 ^ 64 + l = a * b) : Dt 82 #[.int .u64 a, .int .u64 b] (wv h l) := fun w => by
  refine (wMul_any a b w ha hb).mono ?_
  rintro e1 w1 ⟨h', l', rfl, _, hl', e2, hb⟩
  obtain ⟨rfl, rfl⟩ := of_parts h' l' h l hl' hl (by rw [e2, e])
  exact ⟨rfl, hb⟩
theorem dOf (n : Nat) : Dt 43 #[.int .u64 n] (.agg #[.int .u64 0, .int .u64 n]) := fun w => wOf_any n w
theorem dCompare {h l n H L m : Nat} (hl : l < 2 ^ 64) (hL : L < 2 ^ 64) (hn : h * 2 ^ 64 + l = n) (hm : H * 2 ^ 64 + L = m) : Dt 40 #[wv h l, wv H L] (.int .i64 (c3 n m)) := fun w => by
  have := wCompare_any h l H L w
  rwa [cW_eq h l H L n m hl hL hn hm] at this
theorem scl_same {v h l c h' l' c' : Nat} (hs : sclRes v h l c) (hs' : sclRes v h' l' c') (hl : l < 2 ^ 64) (hl' : l' < 2 ^ 64) : h = h' ∧ l = l' ∧ c = c' := by
  unfold sclRes at hs hs'
  split at hs
  · rename_i hv
    rw [if_pos hv] at hs'
    obtain ⟨e1, e2⟩ := of_parts h l h' l' hl hl' (by rw [hs.1, hs'.1])
    exact ⟨e1, e2, by rw [hs.2, hs'.2]⟩
  · rename_i hv
    rw [if_neg hv] at hs'
    exact ⟨by rw [hs.1, hs'.1], by rw [hs.2.1, hs'.2.1], by rw [hs.2.2, hs'.2.2]⟩
theorem dAdd {h l n H L m A B c : Nat} (hh : h < 2 ^ 64) (hl : l < 2 ^ 64) (hn : h * 2 ^ 64 + l = n) (hH : H < 2 ^ 64) (hL : L < 2 ^ 64) (hm : H * 2 ^ 64 + L = m) (hB : B < 2 ^ 64) (hs : sclRes (n + m) A B c) :
    Dt 47 #[wv h l, wv H L] (.tuple #[wv A B, .int .i64 c]) := fun w => by
  refine (wAdd_any h l n H L m w hh hl hn hH hL hm).mono ?_
  rintro e1 w1 ⟨h', l', c', rfl, _, hl', hs', hb⟩
  obtain ⟨rfl, rfl, rfl⟩ := scl_same hs' hs hl' hB
  exact ⟨rfl, hb⟩
theorem dScale {h l n m d A B c : Nat} (hh : h < 2 ^ 64) (hl : l < 2 ^ 64) (hn : h * 2 ^ 64 + l = n) (hm : m < 2 ^ 64) (hd0 : 0 < d) (hd : d < 2 ^ 64) (hB : B < 2 ^ 64) (hs : sclRes (scl n m d true) A B c) :
    Dt 71 #[wv h l, .int .u64 m, .int .u64 d] (.tuple #[wv A B, .int .i64 c]) := fun w => by
  refine (wScale_any h l n m d w hh hl hn hm hd0 hd).mono ?_
  rintro e1 w1 ⟨h', l', c', rfl, _, hl', hs', hb⟩
  obtain ⟨rfl, rfl, rfl⟩ := scl_same hs' hs hl' hB
  exact ⟨rfl, hb⟩
theorem dSubYes {h l n H L m A B : Nat} (hh : h < 2 ^ 64) (hl : l < 2 ^ 64) (hn : h * 2 ^ 64 + l = n) (hH : H < 2 ^ 64) (hL : L < 2 ^ 64) (hm : H * 2 ^ 64 + L = m) (hle : m ≤ n) (hB : B < 2 ^ 64) (e : A * 2 ^ 64 + B = n - m) :
    Dt 42 #[wv h l, wv H L] (.tuple #[wv A B, .int .i64 0]) := fun w => by
  refine (wSub_yes h l n H L m w hh hl hn hH hL hm hle).mono ?_
  rintro e1 w1 ⟨h', l', rfl, _, hl', e2, hb⟩
  obtain ⟨rfl, rfl⟩ := of_parts h' l' A B hl' hB (by rw [e2, e])
  exact ⟨rfl, hb⟩
theorem dSubNo {h l n H L m : Nat} (hl : l < 2 ^ 64) (hn : h * 2 ^ 64 + l = n) (hL : L < 2 ^ 64) (hm : H * 2 ^ 64 + L = m) (hlt : n < m) :
    Dt 42 #[wv h l, wv H L] (.tuple #[.agg #[.int .u64 0, .int .u64 0], .int .i64 131]) := fun w => wSub_no h l n H L m w hl hn hL hm hlt
end Go.Proofs.Ytnhkecfapohlgaa

/-! Small laws: halves, exits, a string's iterator. -/
namespace Go.Proofs.Ytnhkecfapohlgaa
open Go Go.RowKit

theorem halves (v : Nat) : v / 2 ^ 64 * 2 ^ 64 + v % 2 ^ 64 = v := by omega
theorem half_lt (v : Nat) : v % 2 ^ 64 < 2 ^ 64 := Nat.mod_lt _ (by decide)
section
variable {id : Nat} {Q : Exit → Act → World → Prop} {a : Act} {w : World}
end

section
variable {P : Program} {ops : Array Oper} {w0 w : World} {L : List Rw} {Q : Exit → Act → World → Prop} {o : Oper} {rest : List Oper} {a : Act} {gi : Nat} {s : ByteArray} {pos : Nat}
/-- An iterator over a string, in a block of its own. -/
structure Iter (w0 : World) (L : List Rw) (gi : Nat) (s : ByteArray) (pos : Nat) (w : World) : Prop where
  here : w.heap[gi]? = some (.stringIter s pos)
  low : w0.heap.size ≤ gi
  apart : ∀ r ∈ L, r.1 ≠ gi
theorem Iter.kept {w1 : World} (h : Iter w0 L gi s pos w) (hb : Below w.heap.size w w1) : Iter w0 L gi s pos w1 :=
  ⟨(hb.block gi (Array.getElem?_eq_some_iff.1 h.here).1).trans h.here, h.low, h.apart⟩
theorem Iter.put {g : Nat} {cs cs' : Array Value} {T T' : TypeId} {w1 : World} (I : Iter w0 L gi s pos w) (j : Nat) (e : L[j]? = some (g, cs, T)) (hp : Put g cs' T' w w1) (L' : List Rw) (hL : ∀ r ∈ L', r.1 ≠ gi) : Iter w0 L' gi s pos w1 :=
  ⟨(hp.rest gi (fun e1 => I.apart _ (List.mem_of_getElem? e) e1.symm)).trans I.here, I.low, hL⟩
end
end Go.Proofs.Ytnhkecfapohlgaa

/-! The contracts of wide, told by whole numbers. -/
namespace Go.Proofs.Ytnhkecfapohlgaa
open Go Go.RowKit

abbrev nv (n : Nat) : Value := wv (n / 2 ^ 64) (n % 2 ^ 64)
abbrev iv (h l : Int) : Value := .agg #[.int .u64 h, .int .u64 l]
section
variable {h l h2 l2 x y m d a b : Int}
theorem nv_iv (n : Nat) : nv n = iv (hiV (n : Int)) (loV (n : Int)) := by
  have e1 : hiV (n : Int) = ((n / 2 ^ 64 : Nat) : Int) := by unfold hiV; omega
  have e2 : loV (n : Int) = ((n % 2 ^ 64 : Nat) : Int) := by unfold loV; omega
  rw [e1, e2]
theorem hi128 {n : Nat} (h : n < 2 ^ 128) : n / 2 ^ 64 < 2 ^ 64 := by omega
theorem up_scl {n m d : Nat} (hd : 0 < d) : upD ((n : Int) * m) d = ((scl n m d true : Nat) : Int) := by
  have e : scl n m d true = n * m / d + (if n * m % d ≠ 0 then 1 else 0) := by
    unfold scl
    by_cases h : n * m % d = 0 <;> simp [h]
  rw [e]
  unfold upD
  generalize hz : n * m = z
  have hzi : (n : Int) * m = (z : Int) := by rw [← hz]; exact (Int.natCast_mul n m).symm
  rw [hzi, show (z : Int) + d - 1 = ((z + d - 1 : Nat) : Int) from by omega, ← Int.natCast_ediv]
  refine congrArg Nat.cast ?_
  have h1 := Nat.div_add_mod z d
  have h2 := Nat.mod_lt z hd
  generalize z / d = q at h1 ⊢
  generalize z % d = r at h1 h2 ⊢
  subst h1
  by_cases h : r = 0
  · subst h
    rw [if_neg (by simp), show d * q + 0 + d - 1 = d * q + (d - 1) from by rw [Nat.add_zero, Nat.add_sub_assoc hd], Nat.mul_add_div hd, Nat.div_eq_of_lt (Nat.sub_lt hd (by decide))]
  · rw [if_pos h, show d * q + r + d - 1 = d * (q + 1) + (r - 1) from by rw [Nat.mul_add, Nat.mul_one]; generalize d * q = t; omega, Nat.mul_add_div hd, Nat.div_eq_of_lt (Nat.lt_of_le_of_lt (Nat.sub_le _ _) h2)]
theorem upD_one (x : Int) : upD x 1 = x := by unfold upD; rw [Int.ediv_one]; omega
/-- wide.Scale, of a product that has room. -/
theorem wscale_v (hx0 : 0 ≤ x) (hx1 : x < 340282366920938463463374607431768211456) (hm0 : 0 ≤ m) (hm1 : m < 18446744073709551616) (hd0 : 1 ≤ d) (hd1 : d < 18446744073709551616) (hv : upD (x * m) d < 340282366920938463463374607431768211456) :
    Dt 71 #[iv (hiV x) (loV x), .int .u64 m, .int .u64 d] (.tuple #[iv (hiV (upD (x * m) d)) (loV (upD (x * m) d)), .int .i64 0]) := by
  obtain ⟨n, rfl⟩ := Int.eq_ofNat_of_zero_le hx0
  obtain ⟨m, rfl⟩ := Int.eq_ofNat_of_zero_le hm0
  obtain ⟨d, rfl⟩ := Int.eq_ofNat_of_zero_le (show 0 ≤ d by omega)
  have e := up_scl (n := n) (m := m) (d := d) (by omega)
  have hv' : scl n m d true < 2 ^ 128 := by rw [e] at hv; omega
  rw [e, ← nv_iv, ← nv_iv]
  exact dScale (hi128 (by omega)) (half_lt n) (halves n) (by omega) (by omega) (by omega) (half_lt _) (sclRes_yes hv' (halves _))
theorem wadd_v (hx0 : 0 ≤ x) (hy0 : 0 ≤ y) (hx1 : x < 340282366920938463463374607431768211456) (hy1 : y < 340282366920938463463374607431768211456) (hv : x + y < 340282366920938463463374607431768211456) :
    Dt 47 #[iv (hiV x) (loV x), iv (hiV y) (loV y)] (.tuple #[iv (hiV (x + y)) (loV (x + y)), .int .i64 0]) := by
  obtain ⟨n, rfl⟩ := Int.eq_ofNat_of_zero_le hx0
  obtain ⟨m, rfl⟩ := Int.eq_ofNat_of_zero_le hy0
  rw [← Int.natCast_add, ← nv_iv, ← nv_iv, ← nv_iv]
  exact dAdd (hi128 (by omega)) (half_lt n) (halves n) (hi128 (by omega)) (half_lt m) (halves m) (half_lt _) (sclRes_yes (by omega) (halves _))
theorem wsub_ge (hx0 : 0 ≤ x) (hy0 : 0 ≤ y) (hx1 : x < 340282366920938463463374607431768211456) (hy1 : y < 340282366920938463463374607431768211456) (hv : ¬ x < y) :
    Dt 42 #[iv (hiV x) (loV x), iv (hiV y) (loV y)] (.tuple #[iv (hiV (x - y)) (loV (x - y)), .int .i64 0]) := by
  obtain ⟨n, rfl⟩ := Int.eq_ofNat_of_zero_le hx0
  obtain ⟨m, rfl⟩ := Int.eq_ofNat_of_zero_le hy0
  rw [← Int.ofNat_sub (by omega), ← nv_iv, ← nv_iv, ← nv_iv]
  exact dSubYes (hi128 (by omega)) (half_lt n) (halves n) (hi128 (by omega)) (half_lt m) (halves m) (by omega) (half_lt _) (halves _)
theorem wsub_lt (hx0 : 0 ≤ x) (hy0 : 0 ≤ y) (hv : x < y) :
    Dt 42 #[iv (hiV x) (loV x), iv (hiV y) (loV y)] (.tuple #[iv 0 0, .int .i64 131]) := by
  obtain ⟨n, rfl⟩ := Int.eq_ofNat_of_zero_le hx0
  obtain ⟨m, rfl⟩ := Int.eq_ofNat_of_zero_le hy0
  rw [← nv_iv, ← nv_iv]
  exact dSubNo (half_lt n) (halves n) (half_lt m) (halves m) (by omega)
theorem wcmp_v (hx0 : 0 ≤ x) (hy0 : 0 ≤ y) : Dt 40 #[iv (hiV x) (loV x), iv (hiV y) (loV y)] (.int .i64 (cmpI x y)) := by
  obtain ⟨n, rfl⟩ := Int.eq_ofNat_of_zero_le hx0
  obtain ⟨m, rfl⟩ := Int.eq_ofNat_of_zero_le hy0
  rw [← nv_iv, ← nv_iv]
  exact dCompare (half_lt n) (half_lt m) (halves n) (halves m)
theorem wmul_v (hx0 : 0 ≤ x) (hy0 : 0 ≤ y) (hx1 : x < 18446744073709551616) (hy1 : y < 18446744073709551616) : Dt 82 #[.int .u64 x, .int .u64 y] (iv (hiV (x * y)) (loV (x * y))) := by
  obtain ⟨n, rfl⟩ := Int.eq_ofNat_of_zero_le hx0
  obtain ⟨m, rfl⟩ := Int.eq_ofNat_of_zero_le hy0
  rw [← Int.natCast_mul, ← nv_iv]
  exact dMul (by omega) (by omega) (half_lt _) (halves _)
theorem wof_v (hx0 : 0 ≤ x) (hx1 : x < 18446744073709551616) : Dt 43 #[.int .u64 x] (iv (hiV x) (loV x)) := by
  obtain ⟨n, rfl⟩ := Int.eq_ofNat_of_zero_le hx0
  rw [show hiV (n : Int) = 0 from by unfold hiV; omega, show loV (n : Int) = n from by unfold loV; omega]
  exact dOf n
end
/- the same, of fractions -/
section
variable {f g : Fq} {n w s : Int}
theorem hl_num (hU : f.U) : iv f.hi f.lo = iv (hiV f.num) (loV f.num) := by rw [hU.hl.1, hU.hl.2]
theorem ftimes_v (hU : f.U) (hk : f.ok = true) (hw : wB w = true) : Dt 71 #[iv f.hi f.lo, .int .u64 w, .int .u64 1] (.tuple #[iv (hiV (f.num * w)) (loV (f.num * w)), .int .i64 0]) := by
  have h1 := wB_iff.1 hw
  have h2 := mul_lt hU.n0 (num_lt hU hk) (show 0 ≤ w by omega) h1.2
  have h3 := num_big hU
  have := wscale_v (x := f.num) (m := w) (d := 1) hU.n0 h3 (by omega) (by omega) (by decide) (by decide) (by rw [upD_one]; exact h2.2)
  rw [upD_one] at this
  rw [hl_num hU]; exact this
theorem fscale_v (hU : f.U) (hk : f.ok = true) (hw : wB w = true) : Dt 71 #[iv f.hi f.lo, .int .u64 w, .int .u64 f.w] (.tuple #[iv (hiV (upD (f.num * w) f.w)) (loV (upD (f.num * w) f.w)), .int .i64 0]) := by
  have h1 := wB_iff.1 hw
  have h4 := ok_iff.1 hk
  rw [hl_num hU]
  exact wscale_v hU.n0 (num_big hU) (by omega) (by omega) h4.1.1 (by omega) (upN_r hU hk hw).2
theorem fadd_v (hU : f.U) (hk : f.ok = true) (h0 : 0 ≤ n) (h1 : n < 18446744073709551616) : Dt 47 #[iv f.hi f.lo, iv (hiV n) (loV n)] (.tuple #[iv (hiV (f.num + n)) (loV (f.num + n)), .int .i64 0]) := by
  rw [hl_num hU]
  exact wadd_v hU.n0 h0 (num_big hU) (by omega) (add_r hU hk h0 h1).2
theorem fsub_ge (hU : f.U) (h0 : 0 ≤ n) (hv : ¬ f.num < n) : Dt 42 #[iv f.hi f.lo, iv (hiV n) (loV n)] (.tuple #[iv (hiV (f.num - n)) (loV (f.num - n)), .int .i64 0]) := by
  rw [hl_num hU]
  exact wsub_ge hU.n0 h0 (num_big hU) (by have := num_big hU; omega) hv
theorem fsub_lt (hU : f.U) (h0 : 0 ≤ n) (hv : f.num < n) : Dt 42 #[iv f.hi f.lo, iv (hiV n) (loV n)] (.tuple #[iv 0 0, .int .i64 131]) := by
  rw [hl_num hU]
  exact wsub_lt hU.n0 h0 hv
end
end Go.Proofs.Ytnhkecfapohlgaa

/-! The walker: an operation whose answer is told (a shift); a range over a function whose body may return; a function that holds one. -/
namespace Go.Proofs.Ytnhkecfapohlgaa
open Go Go.RowKit

section
variable {E : Env} {k : List Fr} {l : Sl} {L : List Ob} {all os : List Oper} {o : Oper} {i : Nat}
/-- An operation whose answer is told. -/
theorem ops_opv (v : Value) (hw : wantL all l o = some true) (hd : okD E.n o.dst = true) (hk : knownO l o = true) (h : ∀ w, (execOp (look l) o).run E.P w = .ok (.value v) w) (hn : Ops E k all os (i + 1) (putL o.dst v l) L) : Ops E k all (o :: os) i l L := by
  refine ⟨fun a w ha hs => ?_⟩
  have hg := wantL_spec ha hw
  refine wpListIn_step fun K hK => ?_
  rw [if_pos hg]
  refine ⟨fun _ _ => trivial, ?_⟩
  have hdf : ∀ c, o.op ≠ .defer c := fun c e => by simp [knownO, e] at hk
  rw [Oper.semAt_eq _ _ _ hdf, look_exec ha hk, h]
  exact hK _ _ (hn.out _ _ (ha.put hd v) hs)
end
end Go.Proofs.Ytnhkecfapohlgaa

/-! The walker: operations whose answer is told, in regions that draw their order as well: bits, bytes of a table. -/
namespace Go.Proofs.Ytnhkecfapohlgaa
open Go Go.RowKit

section
variable {E : Env} {k : List Fr} {l : Sl} {L : List Ob} {all os : List Oper} {o : Oper} {i : Nat}
variable {P : Program} {ρ : Operand → Value} {T U : TypeId} {x y : Operand} {kd kd' : IntKind} {a b n : Int}
def orV (a b : Int) : Int := IntKind.u32.wrap (((a % 4294967296).toNat ||| (b % 4294967296).toNat : Nat) : Int)
def andV (a b : Int) : Int := IntKind.u32.wrap (((a % 4294967296).toNat &&& (b % 4294967296).toNat : Nat) : Int)
end
end Go.Proofs.Ytnhkecfapohlgaa

/-! The walker: more told operations on bits: and, and-not, sums that wrap. -/
namespace Go.Proofs.Ytnhkecfapohlgaa
open Go Go.RowKit
section
variable {P : Program} {ρ : Operand → Value} {T U : TypeId} {x y : Operand} {a b n : Int} {o : Oper}
def and64 (a b : Int) : Int := IntKind.u64.wrap (((a % 18446744073709551616).toNat &&& (b % 18446744073709551616).toNat : Nat) : Int)
def andI64 (a b : Int) : Int := IntKind.i64.wrap (((a % 18446744073709551616).toNat &&& (b % 18446744073709551616).toNat : Nat) : Int)
def andNotV (a b : Int) : Int := IntKind.u32.wrap (((a % 4294967296).toNat &&& (4294967295 - (b % 4294967296).toNat) : Nat) : Int)
end
end Go.Proofs.Ytnhkecfapohlgaa

/-! Fractions: which may be, how they stand. -/
namespace Go.Proofs.Ytnhkecfapohlgaa
open Go Go.RowKit

set_option maxRecDepth 100000 in
theorem weight_t (x : Int) (w : World)
 : Calls Try.prog 70 #[.int .u64 x] w fun e w' => e = .returned (.bool (wB x)) ∧ Below w.heap.size w w' := by
 refine enter (Hs.start w) Try.func70 rfl Try.ntmps70 rfl (sq_ (qa0 [] [0] [] (ds_ (sq_ ?_))))
 by_cases q3 : (x : Int) ≥ (1 : Int)
 ·
  by_cases q5 : (x : Int) ≤ (65535 : Int)
  ·
   refine qa [(1, .yes), (4, .yes)] [] [(2, .bool true)] ([(x : Int) ≥ (1 : Int)] ++ ([(x : Int) ≤ (65535 : Int)])) (alA (al1 q3) (al1 q5)) (ds_ (rt ([]) (.bool true) ?_))
   exact fun w' hw => ⟨by rw [show wB x = true from by simp only [wB, decide_eq_true_eq]; omega], hw.below⟩
  ·
   refine qa [(1, .yes), (4, .no)] [] [(2, .bool false)] ([(x : Int) ≥ (1 : Int)] ++ ([¬ ((x : Int) ≤ (65535 : Int))])) (alA (al1 q3) (al1 q5)) (ds_ (rt ([]) (.bool false) ?_))
   exact fun w' hw => ⟨by rw [show wB x = false from by simp only [wB, decide_eq_false_iff_not]; omega], hw.below⟩
 ·
  refine qa [(1, .no)] [] [(2, .bool false)] ([¬ ((x : Int) ≥ (1 : Int))]) (al1 q3) (ds_ (rt ([]) (.bool false) ?_))
  exact fun w' hw => ⟨by rw [show wB x = false from by simp only [wB, decide_eq_false_iff_not]; omega], hw.below⟩

set_option maxRecDepth 100000 in
theorem right_t (p : Option Addr) (n cap : Nat) (l : List Fq) (w : World)
 (hsl : Sv w p l) (hn : n = l.length) (hb : n ≤ 1000)
 : Calls Try.prog 39 #[.slice p n cap] w fun e w' => e = .returned (.bool (l.all Fq.ok)) ∧ Below w.heap.size w w' := by
 refine enter (Hs.start w) Try.func39 rfl Try.ntmps39 rfl (sq_ (qa0 [] [0] [] (ds_ (sq_ (sq_ (qa0 [] [] [(5, .slice p n cap), (6, .int .i64 (n : Nat)), (7, .int .i64 0)] (ds_ (at_block (at_loop (α := Nat) [5, 6, 7] (fun j => [(5, .slice p n cap), (6, .int .i64 (n : Nat)), (7, .int .i64 (j : Nat))]) (fun j => []) (fun j => j ≤ n ∧ ∀ y ∈ l.take j, y.ok = true) (fun j => n - j) 0 (by kernel_rfl) rfl ⟨Nat.zero_le _, all_take0T⟩ ?_)))))))))
 rintro j
 rintro ⟨hj, hI⟩
 refine sq_ ?_
 by_cases q4 : ((j : Nat) : Int) < ((n : Nat) : Int)
 ·
  refine qa [(0, .yes)] [5, 6, 7] [(8, .bool true)] ([((j : Nat) : Int) < ((n : Nat) : Int)]) (al1 q4) (ds_ (sq_ (t_ (at_skip (ds_ (sq_ (at_block (sq_ ?_))))))))
  obtain ⟨b7, o7, rfl⟩ := hsl.pos (i := j) (by omega)
  obtain ⟨x9, hx9⟩ := get_some (l := l) (m := j) (by omega)
  refine ma [(0, .at b7 o7 j), (1, .go (outs b7 (o7 + j * 3) [.int .u64 x9.hi, .int .u64 x9.lo, .int .u64 x9.w])), (3, .go (owns 0 0 3))] [5, 6, 7] (fun γ10 => [(4, .pointer (some ⟨γ10 0, 0, none⟩))]) (fun γ10 L => bx (γ10 0) (#[.int .u64 x9.hi, .int .u64 x9.lo, .int .u64 x9.w]) 33 :: L) (fun γ10 => [(some ⟨b7, o7, none⟩ : Option Addr) = some ⟨b7, o7, none⟩, (j : Nat) = ((j : Nat) : Int), j < n] ++ (cellsP w b7 (o7 + j * 3) [.int .u64 x9.hi, .int .u64 x9.lo, .int .u64 x9.w])) (fun γ10 => (alA (al2 rfl (al2 rfl (al1 (by omega)))) (rd_pre (hsl.get hx9) _ rfl))) (fun γ10 => ds_ (sq_ (ao_ (qo0 2 [(1, .go (owns 0 2 1))] [4, 5, 6, 7] [(12, .int .u64 x9.w)] ?_))))
  rcases q12 : wB x9.w with _ | _
  ·
   refine cD (.bool false) Try.call70 (fun w hw => by have := weight_t x9.w w; rw [q12] at this; exact this) (qo0 7 [] [5, 6, 7] [(20, .bool true)] (on_ (ds_ (t_ (sq_ (qa0 [] [] [(2, .bool false)] (ds_ (rt ([]) (.bool false) ?_))))))))
   exact fun w' hw => ⟨by rw [allF_no hx9 (ok_noW q12)], hw.below⟩
  ·
   refine cD (.bool true) Try.call70 (fun w hw => by have := weight_t x9.w w; rw [q12] at this; exact this) ?_
   by_cases q16 : (x9.hi : Int) ≥ (68719476736 : Int)
   ·
    refine qo 7 [(7, .go (owns 0 0 1)), (8, .yes)] [5, 6, 7] [(20, .bool true)] ([(x9.hi : Int) ≥ (68719476736 : Int)]) (al1 q16) (on_ (ds_ (t_ (sq_ (qa0 [] [] [(2, .bool false)] (ds_ (rt ([]) (.bool false) ?_)))))))
    exact fun w' hw => ⟨by rw [allF_no hx9 (ok_noH (by omega))], hw.below⟩
   ·
    refine qo 7 [(7, .go (owns 0 0 1)), (8, .no)] [5, 6, 7] [(20, .bool false)] ([¬ ((x9.hi : Int) ≥ (68719476736 : Int))]) (al1 q16) (on_ (ds_ (f_ (at_skip (done_block (ds_ (qa [(0, .fit)] [5, 6] [(7, .int .i64 (j + 1 : Nat))] ([Fit .i64 ((j + 1 : Nat))]) (al1 (fit64 (by omega) (by omega))) (Done.drop (L' := []) ?_ (List.Sublist.cons _ (List.Sublist.refl _))))))))))
    exact dr [5, 6, 7] (j + 1) ⟨by omega, all_onT hI hx9 (ok_yesW q12 (by omega))⟩
 ·
  refine qa [(0, .no)] [5, 6, 7] [(8, .bool false)] ([¬ (((j : Nat) : Int) < ((n : Nat) : Int))]) (al1 q4) (ds_ (sq_ (f_ (at_leave _ rfl (ds_ (sq_ (qa0 [] [] [(2, .bool true)] (ds_ (rt ([]) (.bool true) ?_)))))))))
  exact fun w' hw => ⟨by rw [allF_yes hI (by omega)], hw.below⟩

set_option maxRecDepth 100000 in
theorem fcheck_t (a : Fq) (w : World)
 : Calls Try.prog 53 #[.agg #[.int .u64 a.hi, .int .u64 a.lo, .int .u64 a.w]] w fun e w' => e = .returned (.int .i64 (if a.ok = true then 0 else 150)) ∧ Below w.heap.size w w' := by
 refine enter (Hs.start w) Try.func53 rfl Try.ntmps53 rfl (sq_ (ma0 [] [] (fun γ1 => [(1, .pointer (some ⟨γ1 0, 0, none⟩))]) (fun γ1 L => bx (γ1 0) (#[.int .u64 a.hi, .int .u64 a.lo, .int .u64 a.w]) 33 :: L) (fun γ1 => ds_ (sq_ (sq_ (ao_ (mo0 2 [(0, .go (owns 0 0 3))] [] (fun γ2 => [(4, .slice (some ⟨γ2 0, 0, none⟩) 1 1)]) (fun γ2 L => bx (γ2 0) (#[.int .u64 a.hi, .int .u64 a.lo, .int .u64 a.w]) 33 :: L) (fun γ2 => ?_))))))))
 rcases q3 : a.ok with _ | _
 ·
  refine cD (.bool false) Try.call39 (fun w hw => by have := right_t (some ⟨γ2 0, 0, none⟩) 1 1 [a] w (sv_row (hw.row 0 rfl) rfl) rfl (by decide); rw [all1, q3] at this; exact this) (qo0 1 [] [] [(6, .bool true)] (on_ (ds_ (t_ (sq_ (qa0 [] [] [(2, .int .i64 150)] (ds_ (rt ([]) (.int .i64 150) ?_))))))))
  exact fun w' hw => ⟨rfl, hw.below⟩
 ·
  refine cD (.bool true) Try.call39 (fun w hw => by have := right_t (some ⟨γ2 0, 0, none⟩) 1 1 [a] w (sv_row (hw.row 0 rfl) rfl) rfl (by decide); rw [all1, q3] at this; exact this) (qo0 1 [] [] [(6, .bool false)] (on_ (ds_ (f_ (at_skip (ds_ (sq_ (qa0 [] [] [(2, .int .i64 0)] (ds_ (rt ([]) (.int .i64 0) ?_))))))))))
  exact fun w' hw => ⟨rfl, hw.below⟩

set_option maxRecDepth 100000 in
theorem times_t (a : Fq) (m : Int) (w : World)
 (hU : a.U) (hk : a.ok = true) (hm : wB m = true)
 : Calls Try.prog 41 #[.agg #[.int .u64 a.hi, .int .u64 a.lo], .int .u64 m] w fun e w' => e = .returned (iv (hiV (a.num * m)) (loV (a.num * m))) ∧ Below w.heap.size w w' := by
 refine enter (Hs.start w) Try.func41 rfl Try.ntmps41 rfl (sq_ (ma0 [] [1] (fun γ1 => [(2, .pointer (some ⟨γ1 0, 0, none⟩)), (4, .pointer (some ⟨γ1 1, 0, none⟩))]) (fun γ1 L => bx (γ1 1) (#[.int .u64 0, .int .u64 0]) 31 :: bx (γ1 0) (#[.int .u64 a.hi, .int .u64 a.lo]) 31 :: L) (fun γ1 => ds_ (sq_ (ao_ (qo0 2 [(0, .go (owns 1 0 2))] [4] [(8, .agg #[.int .u64 a.hi, .int .u64 a.lo]), (9, .int .u64 m)] (cD (.tuple #[.agg #[.int .u64 (hiV (a.num * m)), .int .u64 (loV (a.num * m))], .int .i64 0]) Try.call71 (fun w hw => ftimes_v hU hk hm w) (mo0 6 [(7, .go (owns 0 0 2))] [4] (fun γ3 => [(5, .pointer (some ⟨γ3 0, 0, none⟩))]) (fun γ3 L => bx (γ3 0) (#[.int .u64 (hiV (a.num * m)), .int .u64 (loV (a.num * m))]) 31 :: L) (fun γ3 => on_ (ds_ (sq_ (ma0 [(0, .go (owns 0 0 2)), (1, .go (owns 1 0 2))] [4] (fun _ => []) (fun _ L => (L.set 1 (bx (γ1 1) (#[.int .u64 (hiV (a.num * m)), .int .u64 (loV (a.num * m))]) 31))) (fun _ => ds_ (rt (owns 1 0 2) (.agg #[.int .u64 (hiV (a.num * m)), .int .u64 (loV (a.num * m))]) ?_))))))))))))))
 exact fun w' hw => ⟨rfl, hw.below⟩

set_option maxRecDepth 100000 in
theorem fcmp_t (a b : Fq) (w : World)
 (hU : a.U) (hV : b.U)
 : Calls Try.prog 13 #[.agg #[.int .u64 a.hi, .int .u64 a.lo, .int .u64 a.w], .agg #[.int .u64 b.hi, .int .u64 b.lo, .int .u64 b.w]] w fun e w' => e = .returned (.int .i64 (cmpF a b)) ∧ Below w.heap.size w w' := by
 refine enter (Hs.start w) Try.func13 rfl Try.ntmps13 rfl (sq_ (ma0 [] [] (fun γ1 => [(2, .pointer (some ⟨γ1 0, 0, none⟩)), (3, .pointer (some ⟨γ1 1, 0, none⟩))]) (fun γ1 L => bx (γ1 1) (#[.int .u64 b.hi, .int .u64 b.lo, .int .u64 b.w]) 33 :: bx (γ1 0) (#[.int .u64 a.hi, .int .u64 a.lo, .int .u64 a.w]) 33 :: L) (fun γ1 => ds_ (sq_ (sq_ (ao_ (mo0 3 [(0, .go (owns 1 0 3)), (1, .go (owns 0 0 3))] [2, 3] (fun γ2 => [(7, .slice (some ⟨γ2 0, 0, none⟩) 2 2)]) (fun γ2 L => bx (γ2 0) (#[.int .u64 a.hi, .int .u64 a.lo, .int .u64 a.w, .int .u64 b.hi, .int .u64 b.lo, .int .u64 b.w]) 33 :: L) (fun γ2 => ?_))))))))
 rcases q3 : (a.ok && b.ok) with _ | _
 ·
  refine cD (.bool false) Try.call39 (fun w hw => by have := right_t (some ⟨γ2 0, 0, none⟩) 2 2 [a, b] w (sv_row (hw.row 0 rfl) rfl) rfl (by decide); rw [all2, q3] at this; exact this) (qo0 1 [] [2, 3] [(9, .bool true)] (on_ (ds_ (t_ (sq_ (qa0 [] [] [(4, .int .i64 0)] (ds_ (rt ([]) (.int .i64 0) ?_))))))))
  exact fun w' hw => ⟨by rw [cmpF_no q3], hw.below⟩
 ·
  refine cD (.bool true) Try.call39 (fun w hw => by have := right_t (some ⟨γ2 0, 0, none⟩) 2 2 [a, b] w (sv_row (hw.row 0 rfl) rfl) rfl (by decide); rw [all2, q3] at this; exact this) (qo0 1 [] [2, 3] [(9, .bool false)] (on_ (ds_ (f_ (at_skip (ds_ (sq_ ?_)))))))
  refine at_calm rfl (by kernel_rfl) (by kernel_rfl) ?_
  refine cm 4 [(1, .go (owns 2 0 2)), (3, .go (owns 1 2 1))] [2, 3] [(11, .agg #[.int .u64 a.hi, .int .u64 a.lo]), (13, .int .u64 b.w)] ([]) (by kernel_rfl) rfl al0 ?_
  refine cK (.agg #[.int .u64 (hiV (a.num * b.w)), .int .u64 (loV (a.num * b.w))]) Try.call41 (fun w hw => times_t a b.w w hU (and_l q3) (wB_of (and_r q3))) ?_
  refine cm 4 [(6, .go (owns 1 0 2)), (8, .go (owns 2 2 1))] [14] [(16, .agg #[.int .u64 b.hi, .int .u64 b.lo]), (18, .int .u64 a.w)] ([]) (by kernel_rfl) rfl al0 ?_
  refine cK (.agg #[.int .u64 (hiV (b.num * a.w)), .int .u64 (loV (b.num * a.w))]) Try.call41 (fun w hw => times_t b a.w w hV (and_r q3) (wB_of (and_l q3))) ?_
  refine cK (.int .i64 (cmpI (a.num * b.w) (b.num * a.w))) Try.call40 (fun w hw => wcmp_v (Int.mul_nonneg hU.n0 hV.w0) (Int.mul_nonneg hV.n0 hU.w0) w) ?_
  refine cm 1 [] [] [(4, .int .i64 (cmpI (a.num * b.w) (b.num * a.w)))] ([]) (by kernel_rfl) rfl al0 ?_
  refine calm_nil' ?_
  refine ds_ (rt ([]) (.int .i64 (cmpI (a.num * b.w) (b.num * a.w))) ?_)
  exact fun w' hw => ⟨by rw [cmpF_yes q3], hw.below⟩
end Go.Proofs.Ytnhkecfapohlgaa

/-! The walker: a drawn region that acts, whose first operations only look and come up ahead of all others: they are walked once, in the order of the text. -/
namespace Go.Proofs.Ytnhkecfapohlgaa
open Go Go.RowKit

section
variable {P : Program} {ops : Array Oper} {C : (Nat → Bool) → World → Prop} {Q : Array Bool → Act → Prop} {m : Nat}
def lexTo (ops : Array Oper) : Nat → Nat → Array Bool → Bool
  | 0, _, _ => true
  | f + 1, k, listed => (Region.ready .any ops listed).contains k && Region.free .any ops listed k && lexTo ops f (k + 1) (listed.setIfInBounds k true)
def setTo : Nat → Nat → Array Bool → Array Bool
  | 0, _, L => L
  | n + 1, k, L => setTo n (k + 1) (L.setIfInBounds k true)
def wpPre (P : Program) (ops : Array Oper) (m : Nat) (C : (Nat → Bool) → World → Prop) (Q : Array Bool → Act → Prop) : Nat → Array Bool → Act → Prop
  | 0, listed, a => (∀ i ∈ Region.ready .any ops listed, ¬ i < m) ∧ Q listed a
  | f + 1, listed, a => (∃ i ∈ Region.ready .any ops listed, i < m) ∧ ∀ i ∈ Region.ready .any ops listed, i < m → ∃ o v, ops[i]? = some o ∧ Leaves P ops C i o v a ∧ wpPre P ops m C Q f (listed.setIfInBounds i true) (a.put o.dst v)
theorem wpPre_first {i : Nat} {oi : Oper} {v : Value} (him : i < m) (hi : ops[i]? = some oi) (hsel : ∀ (j : Nat) (o : Oper) cs b, ops[j]? = some o → o.op ≠ .select cs b) :
    ∀ (fuel : Nat) (listed : Array Bool) (a : Act),
      (∀ j oj, ops[j]? = some oj → j ≠ i → listed.getD j true = false → (∀ e ∈ oj.after, Region.binds .any e = true → e.on ≠ i) → oi.apart ops oj = true) →
      i ∈ Region.ready .any ops listed → Leaves P ops C i oi v a →
      wpPre P ops m C Q fuel (listed.setIfInBounds i true) (a.put oi.dst v) → wpPre P ops m C Q (fuel + 1) listed a := by
  intro fuel
  induction fuel with
  | zero =>
    intro listed a _ hr hy H
    refine ⟨⟨i, hr, him⟩, fun j hj hjm => ?_⟩
    by_cases hji : j = i
    · subst hji; exact ⟨oi, v, hi, hy, H⟩
    · exact absurd hjm (H.1 j (ready_mono hj hji))
  | succ fuel ih =>
    intro listed a hfree hr hy H
    refine ⟨⟨i, hr, him⟩, fun j hj hjm => ?_⟩
    by_cases hji : j = i
    · subst hji; exact ⟨oi, v, hi, hy, H⟩
    · obtain ⟨oj, u, hoj, hyj, hrest⟩ := H.2 j (ready_mono hj hji) hjm
      obtain ⟨hjun, oj', hoj', hall⟩ := mem_ready.1 hj
      obtain rfl : oj = oj' := Option.some.inj (hoj.symm.trans hoj')
      have hnot : ∀ e ∈ oj.after, Region.binds .any e = true → e.on ≠ i := fun e he hb heq => by
        have h1 := hall e he hb
        have h0 := (mem_ready.1 hr).1
        rw [heq] at h1
        rcases Nat.lt_or_ge i listed.size with h' | h'
        · simp [h'] at h0 h1; rw [h0] at h1; cases h1
        · simp [Array.getElem?_eq_none h'] at h1
      have hap := hfree j oj hoj hji hjun hnot
      obtain ⟨h1, h2, h3⟩ := Oper.apart_spec hap
      have hyj' : Leaves P ops C j oj u a := hyj.of_same (execOp_put oj (fun cs b => hsel j oj cs b hoj) a oi.dst v h1).symm (wanted_put oj a oi.dst v h1).symm
      have hyi' : Leaves P ops C i oi v (a.put oj.dst u) := hy.of_same (execOp_put oi (fun cs b => hsel i oi cs b hi) a oj.dst u h3) (wanted_put oi a oj.dst u h3)
      have hfree' : ∀ k ok, ops[k]? = some ok → k ≠ i → (listed.setIfInBounds j true).getD k true = false →
          (∀ e ∈ ok.after, Region.binds .any e = true → e.on ≠ i) → oi.apart ops ok = true := fun k ok hk hki hun hno => by
        refine hfree k ok hk hki ?_ hno
        by_cases hjk : j = k
        · subst hjk; exact hjun
        · rw [getD_set_ne true hjk] at hun; exact hun
      refine ⟨oj, u, hoj, hyj', ih _ _ hfree' (ready_mono hr (Ne.symm hji)) hyi' ?_⟩
      rw [Array.setIfInBounds_comm _ _ hji, ← Act.put_comm a v u h2]
      exact hrest
theorem wpPre_lex (hs : Region.noSelect ops = true) : ∀ (l : List Oper) (k : Nat) (listed : Array Bool) (a : Act), (∀ j, j < l.length → l[j]? = ops[k + j]?) → k + l.length = m → listed.size = ops.size → (∀ j, j < k → listed.getD j false = true) →
    lexTo ops l.length k listed = true → wpCalm P ops C (fun a' => Q (setTo l.length k listed) a') l k a → wpPre P ops m C Q l.length listed a
  | [], k, listed, _, _, hm, _, hd, _, h => by
    refine ⟨fun i hi him => ?_, h⟩
    have h1 := getD_both' (mem_ready.1 hi).1
    rw [hd i (by simp at hm; omega)] at h1
    cases h1
  | o :: l, k, listed, a, hl, hm, hsz, hd, hB, h => by
    have h0 : ops[k]? = some o := by simpa using (hl 0 (by simp)).symm
    simp only [List.length_cons, lexTo, Bool.and_eq_true] at hB
    obtain ⟨⟨hr, hf⟩, hB'⟩ := hB
    have hl' : ∀ j, j < l.length → l[j]? = ops[(k + 1) + j]? := fun j hj => by have := hl (j + 1) (by simpa using hj); simpa [Nat.add_assoc, Nat.add_comm 1 j] using this
    have hy : ∃ v, Leaves P ops C k o v a ∧ wpCalm P ops C (fun a' => Q (setTo (o :: l).length k listed) a') l (k + 1) (a.put o.dst v) := by
      unfold wpCalm at h
      split at h
      · rename_i hw; obtain ⟨v, h1, h2⟩ := h; exact ⟨v, .inl ⟨hw, h1⟩, h2⟩
      · rename_i hw; exact ⟨undef, .inr ⟨by simpa using hw, rfl, h.1⟩, h.2⟩
    obtain ⟨v, hy, hK⟩ := hy
    have hk : k < listed.size := by rw [hsz]; exact (Array.getElem?_eq_some_iff.1 h0).1
    exact wpPre_first (by simp at hm; omega) h0 (Region.noSelect_spec hs) l.length listed a (Region.free_spec h0 hf) (by simpa using hr) hy
      (wpPre_lex hs l (k + 1) _ _ hl' (by simp at hm; omega) (by simpa using hsz) (fun j hj => by
        have := congrFun (flags_set (listed := listed) (i := k) hk) j
        unfold flags upd at this
        rw [this]
        by_cases hjk : j = k
        · simp [hjk]
        · simp [hd j (by omega)]) hB' hK)
/-- What is listed has all that it waited for. -/
def Down (ops : Array Oper) (listed : Array Bool) : Prop := ∀ j, listed.getD j false = true → ∀ o, ops[j]? = some o → ∀ e ∈ o.after, Region.binds .any e = true → listed.getD e.on false = true
def reach (ops : Array Oper) : Nat → Nat → Nat → Bool
  | 0, _, _ => false
  | f + 1, i, t => match ops[i]? with
    | none => false
    | some o => o.after.any (fun e => Region.binds .any e && e.on == t) || o.after.any (fun e => Region.binds .any e && reach ops f e.on t)
def gate (ops : Array Oper) (m : Nat) : Bool := (List.range ops.size).all fun i => decide (i < m) || (List.range m).all fun t => reach ops ops.size i t
theorem reach_listed {listed : Array Bool} (hd : Down ops listed) : ∀ (f i t : Nat), reach ops f i t = true → (∀ o, ops[i]? = some o → ∀ e ∈ o.after, Region.binds .any e = true → listed.getD e.on false = true) → listed.getD t false = true
  | 0, _, _, h, _ => by cases h
  | f + 1, i, t, h, hi => by
    simp only [reach] at h
    split at h
    · cases h
    · rename_i o ho
      rw [Bool.or_eq_true, Array.any_eq_true', Array.any_eq_true'] at h
      rcases h with ⟨e, he, h⟩ | ⟨e, he, h⟩
      · simp only [Bool.and_eq_true, beq_iff_eq] at h
        rw [← h.2]; exact hi o ho e he h.1
      · simp only [Bool.and_eq_true] at h
        exact reach_listed hd f e.on t h.2 fun o' ho' => hd e.on (hi o ho e he h.1) o' ho'
def noDefer (l : List Oper) : Bool := l.all fun o => match o.op with
  | .defer _ => false
  | _ => true
theorem wpIn_of_calm {rd : Option Nat} {n : Nat} {o : Oper} {a : Act} {w : World} {C' : World → Prop} {v : Value} {K : Act → World → Prop} {Q : Exit → Act → World → Prop} (hdf : ∀ c, o.op ≠ .defer c) (h : calmAt P o a C' w v)
    (hK : ∀ w', C' w' → K (a.put o.dst v) w') : o.wpIn (fen rd) n P a w K Q := by
  refine ⟨fun _ _ => trivial, ?_⟩
  rw [Oper.semAt_eq _ _ _ hdf]
  unfold calmAt at h
  generalize (execOp a.eval o).run P w = r at *
  cases r with
  | ok x w' =>
    cases x <;> simp only [calmUpon] at h
    case value u => rw [h.1]; exact hK _ h.2
    case skip => obtain ⟨rfl, h2⟩ := h; exact hK _ h2
    case enter f args =>
      refine ⟨fun h => (by cases h), fen_calls ?_⟩
      exact h.mono fun e w'' ⟨he, hw''⟩ => by subst he; exact hK _ hw''
  | halt x w' => simp only [calmUpon] at h
theorem anyIn_of_pre {rd : Option Nat} {n f : Nat} {Q' : Exit → Act → World → Prop} (hdf : ∀ (j : Nat) (o : Oper) c, ops[j]? = some o → o.op ≠ .defer c) (hg : gate ops m = true)
    (hK : ∀ listed a w, Q listed a → C (flags listed) w → wpAnyIn (fen rd) n P .any ops Q' f listed a w) : ∀ (fuel : Nat) (listed : Array Bool) (a : Act) (w : World), C (flags listed) w → Down ops listed → wpPre P ops m C Q fuel listed a → wpAnyIn (fen rd) n P .any ops Q' (fuel + f) listed a w
  | 0, listed, a, w, hC, _, h => by rw [Nat.zero_add]; exact hK _ _ _ h.2 hC
  | fuel + 1, listed, a, w, hC, hD, h => by
    rw [show fuel + 1 + f = (fuel + f) + 1 by omega]
    obtain ⟨⟨i0, hi0, him0⟩, h⟩ := h
    unfold wpAnyIn
    refine ⟨fun h0 => (by rw [h0] at hi0; cases hi0), fun i hi => ?_⟩
    obtain ⟨hun, o', ho', hall⟩ := mem_ready.1 hi
    have him : i < m := by
      by_cases him : i < m
      · exact him
      · exfalso
        have h1 := List.all_eq_true.1 hg i (List.mem_range.2 (Array.getElem?_eq_some_iff.1 ho').1)
        simp only [him, decide_false, Bool.false_or] at h1
        have h2 := reach_listed hD _ _ _ (List.all_eq_true.1 h1 i0 (List.mem_range.2 him0)) fun o ho => by
          obtain rfl : o' = o := Option.some.inj (ho'.symm.trans ho)
          exact hall
        have h3 := getD_both' (mem_ready.1 hi0).1
        rw [h2] at h3; cases h3
    obtain ⟨o, v, ho, hy, hr⟩ := h i hi him
    obtain rfl : o = o' := Option.some.inj (ho.symm.trans ho')
    have hlt := ready_lt hi
    have hf := flags_set (listed := listed) hlt
    have hn : Now i o (flags listed) := ⟨getD_both' hun, hall⟩
    have hD' : Down ops (listed.setIfInBounds i true) := by
      intro j hj oj hoj e he hb
      by_cases hji : j = i
      · subst hji
        obtain rfl : o = oj := Option.some.inj (ho.symm.trans hoj)
        exact getD_set_true (hall e he hb)
      · rw [getD_set_ne false (fun e => hji e.symm)] at hj
        exact getD_set_true (hD j hj oj hoj e he hb)
    unfold wpOpIn
    simp only [ho]
    rcases hy with ⟨hwant, hv⟩ | ⟨hwant, rfl, hc⟩
    · rw [if_pos hwant]
      exact wpIn_of_calm (fun c => hdf i o c ho) (hv _ _ hC hn) fun w' hw' => anyIn_of_pre hdf hg hK fuel _ _ w' (by rw [hf]; exact hw') hD' hr
    · rw [if_neg (by simp [hwant])]
      exact ⟨fun _ _ => trivial, anyIn_of_pre hdf hg hK fuel _ _ w (by rw [hf]; exact hc _ _ hC hn) hD' hr⟩
end
section
variable {E : Env} {k : List Fr} {all : List Oper} {f : Nat} {l : Sl} {L : List Ob}
theorem at_calmTo {id : Nat} (m : Nat) (hrd : E.rd = none) (hm : E.P.follows .mixedOrders = true) (hsel : Region.noSelect all.toArray = true) (hdf : noDefer all = true) (hlex : lexTo all.toArray m 0 (Array.replicate all.length false) = true) (hg : gate all.toArray m = true) (hlen : all.length = m + f)
    (h : Calm E (.loop (fun a w => wpAnyIn (fen E.rd) 0 E.P .any all.toArray (postF E.rd E.P E.R k) f (setTo m 0 (Array.replicate all.length false)) a w) :: k) all (all.take m) 0 l L) : At E k (.region id all.toArray true) l L := by
  refine ⟨fun a w ha hs => wpIn_region_any hm ?_⟩
  have htl : (all.take m).length = m := by rw [List.length_take]; omega
  have hp := wpPre_lex (P := E.P) (C := fun _ w => Hs E.w0 L w) (Q := fun listed a' => ∀ w', Hs E.w0 L w' → wpAnyIn (fen E.rd) 0 E.P .any all.toArray (postF E.rd E.P E.R k) f listed a' w') (m := m) hsel (all.take m) 0 (Array.replicate all.length false) a
    (fun j hj => by rw [htl] at hj; simp [List.getElem?_take, hj]) (by omega) (by simp) (fun j hj => by omega) (by rw [htl]; exact hlex) (by rw [htl]; exact h.out a ha)
  rw [htl] at hp
  have := anyIn_of_pre (rd := E.rd) (n := 0) (f := f) (Q' := postF E.rd E.P E.R k) (fun j o c hj e => by
    have h1 := List.all_eq_true.1 hdf o (List.mem_of_getElem? (by simpa using hj))
    simp [e] at h1) hg (fun listed a' w' hq hC => hq w' hC) m (Array.replicate all.length false) a { w with drawn := w.drawn + 1 } ⟨hs.rows, hs.low, hs.apart, hs.below.drew⟩ (fun j hj => by
    simp only [Array.getD_eq_getD_getElem?, Array.getElem?_replicate] at hj
    split at hj <;> cases hj) hp
  simpa [hlen] using this
theorem done_pre {li li' : Array Bool} (e : li = li') (h : Any E k all f li' l L) : Done E (.loop (fun a w => wpAnyIn (fen E.rd) 0 E.P .any all.toArray (postF E.rd E.P E.R k) f li a w) :: k) l L := by subst e; exact done_loop fun a w ha hs => h.out a w ha hs
end
end Go.Proofs.Ytnhkecfapohlgaa
