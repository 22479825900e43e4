/- mainsheetref03's Of, Number and Scaled: their contracts, whatever the world. -/
import Derived.Test.YtpjdojnbajoafaaWe
namespace Go.Proofs.Ytpjdojnbajoafaa
open Go.RowKit

/-- The bits of a number's two halves, so many of each. -/
def ofAt (h l k : Nat) : Nat → Bool := fun j => if j < 64 then decide (j < k) && l.testBit j else decide (j - 64 < k) && h.testBit (j - 64)
theorem ofAt_zero (h l : Nat) : bF (ofAt h l 0) = bA 0 := by
  rw [bA_bF]; refine bF_ext _ _ fun k _ => ?_
  simp [ofAt]
theorem ofAt_step (h l k : Nat) (hk : k < 64) : ((bF (ofAt h l k)).setIfInBounds k (.bool (l.testBit k))).setIfInBounds (64 + k) (.bool (h.testBit k)) = bF (ofAt h l (k + 1)) := by
  rw [bF_set (ofAt h l k) (fun j => if j = k then l.testBit k else ofAt h l k j) k _ (by simp) (fun j _ hj => by simp [hj])]
  refine bF_set _ _ _ _ ?_ fun j _ hj => ?_
  · unfold ofAt; rw [if_neg (by omega), show 64 + k - 64 = k by omega]; simp
  · unfold ofAt
    by_cases h1 : j < 64
    · rw [if_pos h1, if_pos h1]
      by_cases h2 : j = k
      · subst h2; simp
      · simp only [h2, if_false]; congr 1; rw [decide_eq_decide]; omega
    · rw [if_neg h1, if_neg (by omega), if_neg h1]; congr 1; rw [decide_eq_decide]; omega
theorem ofAt_end (h l : Nat) (hl : l < 2 ^ 64) (hh : h < 2 ^ 64) : bF (ofAt h l 64) = bA (h * 2 ^ 64 + l) := by
  rw [bA_bF]; refine bF_ext _ _ fun k _ => ?_
  rw [Nat.mul_comm, Nat.testBit_two_pow_mul_add _ hl]
  unfold ofAt
  by_cases h1 : k < 64
  · simp [h1]
  · simp only [h1, if_false]
    by_cases h2 : k - 64 < 64
    · simp [h2]
    · have : h.testBit (k - 64) = false := Nat.testBit_lt_two_pow (Nat.lt_of_lt_of_le hh (Nat.pow_le_pow_right (by omega) (by omega)))
      simp [this]

set_option maxRecDepth 100000 in
set_option maxHeartbeats 400000 in
theorem of_any (h l n : Nat) (w : World) (hh : h < 2 ^ 64) (hl : l < 2 ^ 64) (hn : h * 2 ^ 64 + l = n) :
    Calls Try.prog 19 #[.agg #[.int .u64 h, .int .u64 l]] w fun e w' => e = .returned (.agg (bA n)) ∧ Below w.heap.size w w' := by
  have hz := bits_zero
  have HE := Lib.hid (ofAt_end h l hl hh)
  rw [hn] at HE
  clear hn
  have hh0 : 0 ≤ (h : Int) := by omega
  have hl0 : 0 ≤ (l : Int) := by omega
  clear hh hl
  go_enter Try.func19, Try.ntmps19
  go_wp2_with fail
  go_loopw [4] (fun i wr => ∃ k : Nat, k ≤ 64 ∧ i = .int .i64 k ∧
      wr = ((w.alloc (Obj.cells #[.int .u64 h, .int .u64 l] 24)).alloc (Obj.cells (bA 0) 32)).alloc (Obj.cells (bF (ofAt h l k)) 32))
    (fun i _ => 64 - (intOf i).toNat)
  case atStart => exact ⟨0, by omega, rfl, by rw [ofAt_zero]⟩
  case round =>
    obtain ⟨k, hk, rfl, rfl⟩ := hrel
    by_cases hlt : k < 64
    · have hlt' : (k : Int) < 64 := by omega
      have hS := bF_size (ofAt h l k)
      have HS := Lib.hid (ofAt_step h l k hlt)
      have e1 := bit_tmod l k
      have e2 := bit_tmod h k
      generalize l.testBit k = x at HS e1
      generalize h.testBit k = y at HS e2
      generalize ofAt h l k = f at HS hS ⊢
      have hlt2 : (64 : Int) + k < 256 := by omega
      have hlt3 : (k : Int) < 256 := by omega
      have hlt4 : k < 256 := by omega
      have hlt5 : 64 + k < 256 := by omega
      go_wp2_with fail
      exact ⟨⟨k + 1, by omega, by go_num, by rw [← HS.out]⟩, by simp [intOf]; omega⟩
    · have hlt' : 64 ≤ (k : Int) := by omega
      have e : bF (ofAt h l k) = bA n := by
        obtain rfl : k = 64 := by omega
        rw [HE.out]
      rw [e]
      clear e HE
      go_wp2_with (first
        | (with_reducible refine wpB_load rfl (.tmp 3) rfl (w.heap.size + 1 + 1) rfl _ (by repeat (first | (with_reducible refine heap_top _ _ _ ?_; first | (simp; done) | (simp; omega)) | rw [Below.heap_alloc _ _ _ (by first | (simp; done) | (simp; omega))])) ?_)
        | (with_reducible refine wpB_store rfl (.tmp 2) (.tmp 28) rfl (w.heap.size + 1) rfl _ 0 rfl (by repeat (first | (with_reducible refine heap_top _ _ _ ?_; first | (simp; done) | (simp; omega)) | rw [Below.heap_alloc _ _ _ (by first | (simp; done) | (simp; omega))])) ?_; intro w1 h1 h2 h3 h4))
      refine bits_ret (g := w.heap.size + 1) (n := n) rfl rfl h1 ⟨rfl, ?_⟩
      exact h3 _ _ (by omega) ((((Below.refl _ _).alloc (by simp) _).alloc (by simp) _).alloc (by simp; omega) _)

theorem num_step (b k hi lo : Nat) (hv : hi * 2 ^ 64 + lo = b % 2 ^ 128 / 2 ^ (k + 1)) (_hlo : lo < 2 ^ 64) (hk : k < 128) :
    hi * 2 + lo / 2 ^ 63 < 2 ^ 64 ∧ (hi * 2 + lo / 2 ^ 63) * 2 ^ 64 + (lo * 2 % 2 ^ 64 + (b.testBit k).toNat) = b % 2 ^ 128 / 2 ^ k ∧ lo * 2 % 2 ^ 64 + 1 < 2 ^ 64 := by
  have e := div_succ (b % 2 ^ 128) k
  rw [← hv, Nat.testBit_mod_two_pow] at e
  simp only [hk, decide_true, Bool.true_and] at e
  have hb : b % 2 ^ 128 / 2 ^ k < 2 ^ 128 := Nat.lt_of_le_of_lt (Nat.div_le_self _ _) (Nat.mod_lt _ (by decide))
  rw [e] at hb ⊢
  have : (b.testBit k).toNat ≤ 1 := Bool.toNat_le _
  generalize (b.testBit k).toNat = t at *
  omega

/-- Has the row no more than 128 bits? -/
def fits (b : Nat) : Bool := decide (b % 2 ^ 256 < 2 ^ 128)
theorem num_go (b k : Nat) (h : b % 2 ^ k < 2 ^ 128) (hx : b.testBit k = false) : b % 2 ^ (k + 1) < 2 ^ 128 := by
  rw [mod_succ, hx]; simpa using h
theorem num_stop (b k : Nat) (h1 : 128 ≤ k) (h2 : k < 256) (hx : b.testBit k = true) : ¬ b % 2 ^ 256 < 2 ^ 128 := by
  have h3 : (b % 2 ^ 256).testBit k = true := by rw [Nat.testBit_mod_two_pow]; simp [h2, hx]
  have h4 := Nat.ge_two_pow_of_testBit h3
  have h5 : 2 ^ 128 ≤ 2 ^ k := Nat.pow_le_pow_right (by omega) h1
  omega

set_option maxRecDepth 100000 in
set_option maxHeartbeats 1000000 in
theorem number_any (b : Nat) (w : World) :
    Calls Try.prog 20 #[.agg (bA b)] w fun e w' => ∃ h l : Nat, e = .returned (.tuple #[.agg #[.int .u64 h, .int .u64 l], .bool (fits b)]) ∧ h < 2 ^ 64 ∧ l < 2 ^ 64 ∧ h * 2 ^ 64 + l = b % 2 ^ 128 ∧ Below w.heap.size w w' := by
  go_enter Try.func20, Try.ntmps20
  go_wp2_with fail
  go_loopw [5] (fun i wr => ∃ k hi lo : Nat, k ≤ 128 ∧ i = .int .i64 ((k : Int) - 1) ∧ Hid (hi * 2 ^ 64 + lo = b % 2 ^ 128 / 2 ^ k) ∧ Hid (hi < 2 ^ 64) ∧ Hid (lo < 2 ^ 64) ∧
      wr = ((w.alloc (Obj.cells (bA b) 32)).alloc (Obj.cells #[.int .u64 0, .int .u64 0] 24)).alloc (Obj.cells #[.int .u64 hi, .int .u64 lo] 24))
    (fun i _ => (intOf i + 1).toNat)
  case atStart => exact ⟨128, 0, 0, by omega, rfl, (by rw [Nat.div_eq_of_lt (Nat.mod_lt _ (by decide))] : _ = _), (by decide : 0 < 2 ^ 64), (by decide : 0 < 2 ^ 64), rfl⟩
  case round =>
    obtain ⟨k, hi, lo, hk, rfl, HV, HH, HL, rfl⟩ := hrel
    by_cases hlt : 1 ≤ k
    · obtain ⟨j, rfl⟩ : ∃ j, k = j + 1 := ⟨k - 1, by omega⟩
      have e : (((j + 1 : Nat) : Int) - 1) = (j : Int) := by omega
      rw [e]
      clear e
      have hj : (j : Int) < 256 := by omega
      have hx := bA_get b j (by omega)
      obtain ⟨h1, h2, h3⟩ := num_step b j hi lo HV.out HL.out (by omega)
      have HW : IntKind.u64.wrap ((lo : Int) * 2) = ((lo * 2 % 2 ^ 64 : Nat) : Int) := by rw [IntKind.wrap_u64]; omega
      have h4 : (hi : Int) * 2 + (lo : Int) / 9223372036854775808 < 18446744073709551616 := by omega
      have h5 : (lo : Int) / 9223372036854775808 = ((lo / 2 ^ 63 : Nat) : Int) := by omega
      rw [h5] at h4
      have HS := Lib.hid h2
      have HS1 := Lib.hid h1
      have HM : ((lo * 2 % 2 ^ 64 : Nat) : Int) + 1 < 18446744073709551616 := by omega
      have HM0 : (0 : Int) ≤ ((lo * 2 % 2 ^ 64 : Nat) : Int) := by omega
      clear h1 h2 h3
      generalize lo * 2 % 2 ^ 64 = m at HW HS HM HM0
      generalize lo / 2 ^ 63 = c at h4 h5 HS HS1
      generalize b.testBit j = x at hx HS
      cases x
      all_goals go_wp2_with fail
      · exact ⟨⟨j, hi * 2 + c, m, by omega, rfl, HS.out, HS1.out, (by omega : m < 2 ^ 64), by simp⟩, by simp [intOf]⟩
      · exact ⟨⟨j, hi * 2 + c, m + 1, by omega, rfl, HS.out, HS1.out, (by omega : m + 1 < 2 ^ 64), by simp⟩, by simp [intOf]⟩
    · obtain rfl : k = 0 := by omega
      have e : (((0 : Nat) : Int) - 1) = -1 := rfl
      rw [e]
      clear e
      have HV' : Hid (hi * 2 ^ 64 + lo = b % 2 ^ 128) := by have := HV.out; rw [Nat.pow_zero, Nat.div_one] at this; exact this
      clear HV
      go_wp2_with fail
      go_loopw [6] (fun i wr => ∃ k : Nat, 128 ≤ k ∧ k ≤ 256 ∧ i = .int .i64 k ∧ Hid (b % 2 ^ k < 2 ^ 128) ∧
          wr = ((w.alloc (Obj.cells (bA b) 32)).alloc (Obj.cells #[.int .u64 0, .int .u64 0] 24)).alloc (Obj.cells #[.int .u64 hi, .int .u64 lo] 24))
        (fun i _ => 256 - (intOf i).toNat)
      case atStart => exact ⟨128, by omega, by omega, rfl, (Nat.mod_lt _ (by decide) : b % 2 ^ 128 < 2 ^ 128), rfl⟩
      case round =>
        obtain ⟨k, hk1, hk, rfl, HK, rfl⟩ := hrel
        by_cases hlt : k < 256
        · have hlt' : (k : Int) < 256 := by omega
          have hx := bA_get b k hlt
          have HS := Lib.hid (num_go b k HK.out)
          have hN : b.testBit k = true → fits b = false := fun hx => decide_eq_false (num_stop b k hk1 hlt hx)
          have HN := Lib.hid hN
          clear hN
          generalize b.testBit k = x at hx HS HN
          cases x
          · go_wp2_with fail
            exact ⟨⟨k + 1, by omega, by omega, by go_num, HS.out (by simp), trivial⟩, by simp [intOf]; omega⟩
          · go_wp2_with fail
            exact bodyPost_ret (v := .tuple #[.agg #[.int .u64 hi, .int .u64 lo], .bool false]) (by simp [results, Try.results20, go_sem]) rfl
              ⟨hi, lo, by rw [HN.out (by simp)], HH.out, HL.out, HV'.out, ((((Below.refl _ _).alloc (by simp) _).alloc (by simp) _).alloc (by simp; omega) _)⟩
        · have hlt' : 256 ≤ (k : Int) := by omega
          have HN : Hid (fits b = true) := by
            obtain rfl : k = 256 := by omega
            exact (decide_eq_true HK.out : fits b = true)
          clear HK
          go_wp2_with fail
          exact bodyPost_ret (v := .tuple #[.agg #[.int .u64 hi, .int .u64 lo], .bool true]) (by simp [results, Try.results20, go_sem]) rfl
            ⟨hi, lo, by rw [HN.out], HH.out, HL.out, HV'.out, ((((Below.refl _ _).alloc (by simp) _).alloc (by simp) _).alloc (by simp; omega) _)⟩

end Go.Proofs.Ytpjdojnbajoafaa
