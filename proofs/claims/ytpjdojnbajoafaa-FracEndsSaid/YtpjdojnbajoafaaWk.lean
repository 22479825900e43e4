/- package wide's Mul, Div, scaled, Scale, MulDiv: their contracts, whatever the world. -/
import Derived.Test.YtpjdojnbajoafaaWj
import Derived.Test.YtpjdojnbajoafaaWg
namespace Go.Proofs.Ytpjdojnbajoafaa
open Go.RowKit

theorem Below.two {B : Nat} {w0 w w1 : World} (h : Below B w0 w) (hB : B ≤ w0.heap.size) (h1 : Below w.heap.size w w1) : Below B w0 w1 := h.trans (h1.mono (Nat.le_trans hB h.size))

set_option maxRecDepth 100000 in
set_option maxHeartbeats 400000 in
theorem wMul_any (a b : Nat) (w : World) (ha : a < 2 ^ 64) (hb : b < 2 ^ 64) :
    Calls Try.prog 27 #[.int .u64 a, .int .u64 b] w fun e w' => ∃ h l : Nat, e = .returned (.agg #[.int .u64 h, .int .u64 l]) ∧ h < 2 ^ 64 ∧ l < 2 ^ 64 ∧ h * 2 ^ 64 + l = a * b ∧ Below w.heap.size w w' := by
  have HA := Lib.hid ha
  have HB := Lib.hid hb
  have HV := Lib.hid (show a * b + 0 < 2 ^ 128 from by have := Nat.mul_lt_mul'' ha hb; omega)
  clear ha hb
  go_enter Try.func27, Try.ntmps27
  go_wp2_with fail
  refine (wOf_any _ _).mono ?_
  rintro e w1 ⟨rfl, hb1⟩
  have r1 : IsW w1 w.heap.size 0 0 := IsR.kept (by unfold IsR; exact (by repeat (first | (with_reducible refine heap_top _ _ _ ?_; first | (simp; done) | (simp; omega)) | rw [Below.heap_alloc _ _ _ (by first | (simp; done) | (simp; omega))]))) hb1
  have k1 : Below w.heap.size w w1 := Below.two ((Below.refl _ _).alloc (Nat.le_refl _) _) (Nat.le_refl _) hb1
  clear hb1
  go_wp2_with fail
  refine (wof_any 0 a a _ (by decide) HA.out (by omega)).mono ?_
  rintro e w2 ⟨rfl, hb2⟩
  have r2 := r1.kept hb2
  have k2 := Below.two k1 (Nat.le_refl _) hb2
  clear hb2 r1 k1
  go_wp2_with fail
  refine (times_any a b 0 _ HB.out (by decide)).mono ?_
  rintro e w3 ⟨rfl, hb3⟩
  have r3 := r2.kept hb3
  have k3 := Below.two k2 (Nat.le_refl _) hb3
  clear hb3 r2 k2
  go_wp2_with fail
  refine (qwide_any (a * b + 0) _ (Nat.lt_of_lt_of_le HV.out (by decide))).mono ?_
  rintro e w4 ⟨h, l, rfl, hh, hl, hn, hb4⟩
  have HH := Lib.hid hh
  have HL := Lib.hid hl
  have HN := Lib.hid hn
  have r4 := r3.kept hb4
  have k4 := Below.two k3 (Nat.le_refl _) hb4
  have s4 := r4.lt
  clear hb4 r3 k3 hh hl hn
  go_wp2_with (first
    | (with_reducible refine wpW_store rfl (.tmp 4) (.tmp 16) rfl w.heap.size rfl h l 0 0 rfl (r4.alloc _) ?_; intro w5 hp5))
  refine retW rfl rfl hp5.row ⟨h, l, rfl, HH.out, HL.out, ?_, hp5.below _ _ (Nat.le_refl _) (k4.alloc k4.size _)⟩
  rw [HN.out, Nat.mod_eq_of_lt HV.out, Nat.add_zero]

set_option maxRecDepth 100000 in
set_option maxHeartbeats 400000 in
theorem wDiv_zero (h l : Nat) (w : World) :
    Calls Try.prog 16 #[.agg #[.int .u64 h, .int .u64 l], .int .u64 0] w fun e w' => e = .returned (.tuple #[.agg #[.int .u64 0, .int .u64 0], .int .u64 0, .int .i64 130]) ∧ Below w.heap.size w w' := by
  go_enter Try.func16, Try.ntmps16
  go_wp2_with fail
  exact bodyPost_ret (v := .tuple #[.agg #[.int .u64 0, .int .u64 0], .int .u64 0, .int .i64 130]) (by simp [results, Try.results16, go_sem]) rfl ⟨rfl, ((Below.refl _ _).alloc (Nat.le_refl _) _).alloc (by simp) _⟩

set_option maxRecDepth 100000 in
set_option maxHeartbeats 400000 in
theorem wDiv_any (h l n d : Nat) (w : World) (hh : h < 2 ^ 64) (hl : l < 2 ^ 64) (hn : h * 2 ^ 64 + l = n) (hd0 : 0 < d) (hd : d < 2 ^ 64) :
    Calls Try.prog 16 #[.agg #[.int .u64 h, .int .u64 l], .int .u64 d] w fun e w' => ∃ h' l' : Nat, e = .returned (.tuple #[.agg #[.int .u64 h', .int .u64 l'], .int .u64 (n % d : Nat), .int .i64 0]) ∧ h' < 2 ^ 64 ∧ l' < 2 ^ 64 ∧ h' * 2 ^ 64 + l' = n / d ∧ Below w.heap.size w w' := by
  have HH := Lib.hid hh
  have HL := Lib.hid hl
  have HN := Lib.hid hn
  have HD0 := Lib.hid hd0
  have HD := Lib.hid hd
  have HV := Lib.hid (show n < 2 ^ 128 by omega)
  have hz : ((d : Int) == 0) = false := by rw [beq_eq_false_iff_ne]; omega
  clear hh hl hn hd0 hd
  go_enter Try.func16, Try.ntmps16
  go_wp2_with fail
  refine (wof_any h l n _ HH.out HL.out HN.out).mono ?_
  rintro e w1 ⟨rfl, hb1⟩
  have r1 : IsW w1 (w.heap.size + 1) 0 0 := IsR.kept (by unfold IsR; exact (by repeat (first | (with_reducible refine heap_top _ _ _ ?_; first | (simp; done) | (simp; omega)) | rw [Below.heap_alloc _ _ _ (by first | (simp; done) | (simp; omega))]))) hb1
  have k1 : Below w.heap.size w w1 := Below.two (((Below.refl _ _).alloc (Nat.le_refl _) _).alloc (by simp) _) (Nat.le_refl _) hb1
  clear hb1
  go_wp2_with fail
  refine (over_any n d _ (Nat.lt_of_lt_of_le HV.out (by decide)) HD0.out HD.out).mono ?_
  rintro e w2 ⟨rfl, hb2⟩
  have r2 := r1.kept hb2
  have k2 := Below.two k1 (Nat.le_refl _) hb2
  have s2 := r2.lt
  clear hb2 r1 k1
  have HQ := Lib.hid (Nat.lt_of_le_of_lt (Nat.div_le_self n d) HV.out)
  obtain ⟨r, hr⟩ : ∃ r, n % d = r := ⟨_, rfl⟩
  rw [hr]
  have HR := Lib.hid hr
  clear hr
  go_wp2_with (first
    | (with_reducible refine wpQ_store rfl (.tmp 7) (.tmp 19) rfl w2.heap.size rfl (n / d) 0 rfl (by unfold IsQ; rw [qA_zero]; unfold IsR; exact (by repeat (first | (with_reducible refine heap_top _ _ _ ?_; first | (simp; done) | (simp; omega)) | rw [Below.heap_alloc _ _ _ (by first | (simp; done) | (simp; omega))]))) ?_; intro w3 hp3; have r3 : IsW w3 (w.heap.size + 1) 0 0 := IsR.put (r2.alloc _) hp3 (by omega); have k3 := hp3.below w.heap.size w (by omega) (k2.alloc (by omega) _); have q3 := hp3.row)
    | (with_reducible refine wpQ_load rfl (.tmp 7) rfl w2.heap.size rfl (n / d) q3 ?_))
  refine (qwide_any (n / d) _ (Nat.lt_of_lt_of_le HQ.out (by decide))).mono ?_
  rintro e w4 ⟨h', l', rfl, hh', hl', hn', hb4⟩
  have HH' := Lib.hid hh'
  have HL' := Lib.hid hl'
  have HN' := Lib.hid hn'
  have r4 : IsW w4 (w.heap.size + 1) 0 0 := r3.kept hb4
  have k4 := Below.two k3 (Nat.le_refl _) hb4
  have s4 := r4.lt
  clear hb4 r3 k3 hh' hl' hn' hp3 q3
  go_wp2_with (first
    | (with_reducible refine wpW_store rfl (.tmp 9) (.tmp 24) rfl w4.heap.size rfl h' l' 0 0 rfl (by (show (_ : World).heap[_]? = some _); repeat (first | (with_reducible refine heap_top _ _ _ ?_; first | (simp; done) | (simp; omega)) | rw [Below.heap_alloc _ _ _ (by first | (simp; done) | (simp; omega))])) ?_; intro w5 hp5; have r5 : IsW w5 (w.heap.size + 1) 0 0 := IsR.put (r4.alloc _) hp5 (by omega); have k5 := hp5.below w.heap.size w (by omega) (k4.alloc (by omega) _); have q5 := hp5.row)
    | (with_reducible refine wpW_load rfl (.tmp 9) rfl w4.heap.size rfl h' l' q5 ?_)
    | (with_reducible refine wpW_store rfl (.tmp 4) (.tmp 26) rfl (w.heap.size + 1) rfl h' l' 0 0 rfl r5 ?_; intro w6 hp6))
  refine retW2 rfl rfl (.int .u64 r) (.int .i64 0) rfl rfl hp6.row ⟨h', l', by rw [HR.out], HH'.out, HL'.out, ?_, hp6.below _ _ (by omega) k5⟩
  rw [HN'.out, Nat.mod_eq_of_lt HQ.out]

end Go.Proofs.Ytpjdojnbajoafaa
