/- The law WideMulDivs: it answers true, whatever the input. -/
import Derived.Test.YtpjdojnbajoafaaLa
namespace Go.Proofs.Ytpjdojnbajoafaa
open Go.RowKit

theorem md_yes {v x c : Nat} (h : mdRes v x c) (hv : v < 2 ^ 64) : v = x ∧ 0 = c := by
  unfold mdRes at h; rw [if_pos hv] at h; exact ⟨h.1.symm, h.2.symm⟩
theorem md_no {v x c : Nat} (h : mdRes v x c) (hv : ¬ v < 2 ^ 64) : 0 = x ∧ 131 = c := by
  unfold mdRes at h; rw [if_neg hv] at h; exact ⟨h.1.symm, h.2.symm⟩
theorem scl64 (a b d : Nat) (up : Bool) (ha : a < 2 ^ 64) (hb : b < 2 ^ 64) : scl a b d up < 2 ^ 224 := (scl_lt a b d up (Nat.lt_trans ha (by decide)) hb).2
theorem two_bools (k : Nat) (hk : k < 2) : (#[Value.bool false, Value.bool true] : Array Value)[k]? = some (.bool (decide (k = 1))) := by
  have h : k = 0 ∨ k = 1 := by omega
  rcases h with rfl | rfl <;> rfl

set_option maxRecDepth 100000 in
set_option maxHeartbeats 1000000 in
theorem widemuldivs_zero (a b : Nat) (w : World) :
    Calls Try.prog 4 #[.int .u64 a, .int .u64 b, .int .u64 0] w fun e w' => e = .returned (.bool true) ∧ Below w.heap.size w w' := by
  go_enter Try.func4, Try.ntmps4
  go_wp2_with fail
  refine (wakes_any _).mono ?_
  rintro e w1 ⟨rfl, hb1⟩
  go_wp2_with fail
  go_loopw [17] (fun t wr => ∃ k : Nat, k ≤ 2 ∧ t = .int .i64 k ∧ IsR wr w1.heap.size #[.bool false, .bool true] 4 ∧ Below w.heap.size w wr)
    (fun t _ => 2 - (intOf t).toNat)
  case atStart => exact ⟨0, by omega, rfl, by unfold IsR; exact (by repeat (first | (with_reducible refine heap_top _ _ _ ?_; first | (simp; done) | (simp; omega)) | rw [Below.heap_alloc _ _ _ (by first | (simp; done) | (simp; omega))])), hb1.alloc hb1.size _⟩
  case round =>
    clear hb1
    obtain ⟨k, hk, rfl, hR, hB⟩ := hrel
    by_cases hlt : k < 2
    · have hk2 : (k : Int) < 2 := by omega
      have hc := hR.cell k
      rw [two_bools k hlt] at hc
      obtain ⟨up, hup⟩ : ∃ up, decide (k = 1) = up := ⟨_, rfl⟩
      rw [hup] at hc
      clear hup
      go_wp2_with fail
      refine (wMulDiv_zero a b up _).mono ?_
      rintro e w2 ⟨rfl, hb2⟩
      have hR2 := hR.kept hb2
      have hB2 := Below.two hB (Nat.le_refl _) hb2
      clear hR hB hb2 hc
      go_wp2_with fail
      exact ⟨⟨k + 1, by omega, by go_num, hR2, hB2⟩, by simp [intOf]; omega⟩
    · have hk2 : 2 ≤ (k : Int) := by omega
      go_wp2_with fail
      go_ret
      exact ⟨rfl, hB⟩

set_option maxRecDepth 100000 in
set_option maxHeartbeats 1000000 in
theorem widemuldivs_any (a b d : Nat) (w : World) (ha : a < 2 ^ 64) (hb : b < 2 ^ 64) (hd0 : 0 < d) (hd : d < 2 ^ 64) :
    Calls Try.prog 4 #[.int .u64 a, .int .u64 b, .int .u64 d] w fun e w' => e = .returned (.bool true) ∧ Below w.heap.size w w' := by
  have HMD := Lib.hid (fun up w => wMulDiv_any a b d up w ha hb hd0 hd)
  have HSC := Lib.hid (fun up w => scaled_any 0 a a b d up w (by decide) ha (by omega) hb hd0 hd)
  have HSL := Lib.hid (fun up => scl64 a b d up ha hb)
  have hz : ((d : Int) == 0) = false := by rw [beq_eq_false_iff_ne]; omega
  clear ha hb hd0 hd
  go_enter Try.func4, Try.ntmps4
  go_wp2_with fail
  refine (wakes_any _).mono ?_
  rintro e w1 ⟨rfl, hb1⟩
  go_wp2_with fail
  go_loopw [17] (fun t wr => ∃ k : Nat, k ≤ 2 ∧ t = .int .i64 k ∧ IsR wr w1.heap.size #[.bool false, .bool true] 4 ∧ Below w.heap.size w wr)
    (fun t _ => 2 - (intOf t).toNat)
  case atStart => exact ⟨0, by omega, rfl, by unfold IsR; exact (by repeat (first | (with_reducible refine heap_top _ _ _ ?_; first | (simp; done) | (simp; omega)) | rw [Below.heap_alloc _ _ _ (by first | (simp; done) | (simp; omega))])), hb1.alloc hb1.size _⟩
  case round =>
    clear hb1
    obtain ⟨k, hk, rfl, hR, hB⟩ := hrel
    by_cases hlt : k < 2
    · have hk2 : (k : Int) < 2 := by omega
      have hc := hR.cell k
      rw [two_bools k hlt] at hc
      obtain ⟨up, hup⟩ : ∃ up, decide (k = 1) = up := ⟨_, rfl⟩
      rw [hup] at hc
      clear hup
      go_wp2_with fail
      refine (HMD.out up _).mono ?_
      rintro e w2 ⟨x, c, rfl, hx, hmd, hb2⟩
      have hR2 := hR.kept hb2
      have hB2 := Below.two hB (Nat.le_refl _) hb2
      have HX := Lib.hid hx
      clear hR hB hb2 hc hx
      go_wp2_with fail
      refine (HSC.out up _).mono ?_
      rintro e w3 ⟨h, l, rfl, hh, hl, hn, hb3⟩
      have hR3 := hR2.kept hb3
      have hB3 := Below.two hB2 (Nat.le_refl _) hb3
      clear hR2 hB2 hb3
      have hl224 := HSL.out up
      generalize scl a b d up = v at *
      by_cases hv : v < 2 ^ 128
      · rw [fits_yes hv]
        rw [Nat.mod_eq_of_lt hv] at hn
        by_cases hv2 : v < 2 ^ 64
        · obtain ⟨rfl, rfl⟩ := md_yes hmd hv2
          obtain ⟨rfl, rfl⟩ : 0 = h ∧ v = l := of_parts 0 v h l hv2 hl (by rw [hn, Nat.zero_mul, Nat.zero_add])
          clear hh hl hn hv hv2 hl224 hmd
          go_wp2_with fail
          exact ⟨⟨k + 1, by omega, by go_num, hR3.alloc _, hB3.alloc hB3.size _⟩, by simp [intOf]; omega⟩
        · obtain ⟨rfl, rfl⟩ := md_no hmd hv2
          have h0 : (0 : Int) < (h : Int) := by omega
          clear hh hl hn hv hv2 hl224 hmd
          go_wp2_with fail
          exact ⟨⟨k + 1, by omega, by go_num, hR3.alloc _, hB3.alloc hB3.size _⟩, by simp [intOf]; omega⟩
      · obtain ⟨rfl, rfl⟩ := md_no hmd (by omega)
        rw [fits_no hv hl224]
        clear hh hl hn hv hl224 hmd
        go_wp2_with fail
        exact ⟨⟨k + 1, by omega, by go_num, hR3.alloc _, hB3.alloc hB3.size _⟩, by simp [intOf]; omega⟩
    · have hk2 : 2 ≤ (k : Int) := by omega
      go_wp2_with fail
      go_ret
      exact ⟨rfl, hB⟩


end Go.Proofs.Ytpjdojnbajoafaa
