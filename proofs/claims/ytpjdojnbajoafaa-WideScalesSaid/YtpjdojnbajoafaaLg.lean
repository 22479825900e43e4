/- The law WideSums: it answers true, whatever the input. -/
import Derived.Test.YtpjdojnbajoafaaLd
import Derived.Test.YtpjdojnbajoafaaLe
import Derived.Test.YtpjdojnbajoafaaLf
namespace Go.Proofs.Ytpjdojnbajoafaa
open Go Go.RowKit

theorem halves (v : Nat) : v / 2 ^ 64 * 2 ^ 64 + v % 2 ^ 64 = v := by omega
theorem half_lt (v : Nat) : v % 2 ^ 64 < 2 ^ 64 := Nat.mod_lt _ (by decide)
theorem fits_t {v : Nat} (hv : v < 2 ^ 128) : fits v = true := by
  unfold fits; rw [Nat.mod_eq_of_lt (Nat.lt_trans hv (by decide))]; exact decide_eq_true hv
theorem fits_f {v : Nat} (hv : ¬ v < 2 ^ 128) (h2 : v < 2 ^ 224) : fits v = false := by
  unfold fits; rw [Nat.mod_eq_of_lt (Nat.lt_trans h2 (by decide))]; exact decide_eq_false hv
theorem c3_lt {a b : Nat} (h : a < b) : c3 a b = -1 := if_pos (by omega)
theorem c3_gt {a b : Nat} (h : b < a) : c3 a b = 1 := by unfold c3; rw [if_neg (by omega), if_pos (by omega)]
theorem c3_eq (a : Nat) : c3 a a = 0 := by unfold c3; rw [if_neg (by omega), if_neg (by omega)]

theorem widesums_any (h l H L : Nat) (w : World) (hh : h < 2 ^ 64) (hl : l < 2 ^ 64) (hH : H < 2 ^ 64) (hL : L < 2 ^ 64) :
    Calls Try.prog 6 #[wv h l, wv H L] w fun e w' => e = .returned (.bool true) ∧ Below w.heap.size w w' := by
  obtain ⟨n, hn⟩ : ∃ n, h * 2 ^ 64 + l = n := ⟨_, rfl⟩
  obtain ⟨m, hm⟩ : ∃ m, H * 2 ^ 64 + L = m := ⟨_, rfl⟩
  have hn2 : n < 2 ^ 128 := by omega
  have hm2 : m < 2 ^ 128 := by omega
  have hp : l * L < 2 ^ 128 := Nat.lt_of_lt_of_le (Nat.mul_lt_mul'' hl hL) (by decide)
  have g256 : ∀ v, v < 2 ^ 128 → v < 2 ^ 256 := fun v hv => Nat.lt_trans hv (by decide)
  have OA := Lib.hid (dROf hh hl hn)
  have OB := Lib.hid (dROf hH hL hm)
  have OL := Lib.hid (dROfLo hl)
  have PR := Lib.hid (dProduct l hL)
  have NP := Lib.hid (dNumber (b := l * L) (half_lt (l * L)) (by rw [halves, Nat.mod_eq_of_lt hp]) (fits_t hp))
  have L1 := Lib.hid (dLess (g256 n hn2) (g256 m hm2))
  have L2 := Lib.hid (dLess (g256 m hm2) (g256 n hn2))
  have MU := Lib.hid (dMul hl hL (half_lt (l * L)) (halves (l * L)))
  have CM := Lib.hid (dCompare hl hL hn hm)
  have OF := Lib.hid (dOf l)
  have SU := Lib.hid (dSum n m)
  have NS := fun f (hf : fits (n + m) = f) => dNumber (b := n + m) (h := (n + m) % 2 ^ 128 / 2 ^ 64) (half_lt ((n + m) % 2 ^ 128)) (halves _) hf
  have AD := fun A B c hB hs => dAdd hh hl hn hH hL hm (A := A) (B := B) (c := c) hB hs
  have kb : n + m < 2 ^ 224 := by omega
  rcases Nat.lt_trichotomy n m with g | g | g
  · have e1 : decide (n < m) = true := decide_eq_true g
    have e2 : decide (m < n) = false := decide_eq_false (by omega)
    rw [e1] at L1; rw [e2] at L2; rw [c3_lt g] at CM
    have SB := Lib.hid (dSubNo hl hn hL hm g)
    by_cases hk : n + m < 2 ^ 128
    · have hq : (n + m) % 2 ^ 128 = n + m := Nat.mod_eq_of_lt hk
      rw [hq] at NS
      exact widesums_101 h l H L n m _ _ 0 _ _ _ _ 0 0 w OA OB OL PR NP L1 L2 MU CM OF (Lib.hid (AD _ _ 0 (half_lt _) (sclRes_yes hk (halves _)))) SU (Lib.hid (NS _ (fits_t hk))) SB
    · exact widesums_100 h l H L n m _ _ 0 _ _ _ _ 0 0 w OA OB OL PR NP L1 L2 MU CM OF (Lib.hid (AD 0 0 131 (by decide) (sclRes_no hk))) SU (Lib.hid (NS _ (fits_f hk kb))) SB
  all_goals
    have e1 : decide (n < m) = false := decide_eq_false (by omega)
    have TK := Lib.hid (dTake (g256 n hn2) (show m ≤ n by omega))
    have ht : n - m < 2 ^ 128 := by omega
    have NT := Lib.hid (dNumber (b := n - m) (half_lt (n - m)) (by rw [halves, Nat.mod_eq_of_lt ht]) (fits_t ht))
    have SB := Lib.hid (dSubYes hh hl hn hH hL hm (show m ≤ n by omega) (half_lt (n - m)) (halves (n - m)))
    rw [e1] at L1
  · have e2 : decide (m < n) = false := decide_eq_false (by omega)
    rw [e2] at L2; rw [g, c3_eq] at CM
    by_cases hk : n + m < 2 ^ 128
    · have hq : (n + m) % 2 ^ 128 = n + m := Nat.mod_eq_of_lt hk
      rw [hq] at NS
      exact widesums_001 h l H L n m _ _ _ _ _ _ _ _ _ w OA OB OL PR NP L1 L2 MU CM OF (Lib.hid (AD _ _ 0 (half_lt _) (sclRes_yes hk (halves _)))) SU (Lib.hid (NS _ (fits_t hk))) SB TK NT
    · exact widesums_000 h l H L n m _ _ _ _ _ _ _ _ _ w OA OB OL PR NP L1 L2 MU CM OF (Lib.hid (AD 0 0 131 (by decide) (sclRes_no hk))) SU (Lib.hid (NS _ (fits_f hk kb))) SB TK NT
  · have e2 : decide (m < n) = true := decide_eq_true g
    rw [e2] at L2; rw [c3_gt g] at CM
    by_cases hk : n + m < 2 ^ 128
    · have hq : (n + m) % 2 ^ 128 = n + m := Nat.mod_eq_of_lt hk
      rw [hq] at NS
      exact widesums_011 h l H L n m _ _ _ _ _ _ _ _ _ w OA OB OL PR NP L1 L2 MU CM OF (Lib.hid (AD _ _ 0 (half_lt _) (sclRes_yes hk (halves _)))) SU (Lib.hid (NS _ (fits_t hk))) SB TK NT
    · exact widesums_010 h l H L n m _ _ _ _ _ _ _ _ _ w OA OB OL PR NP L1 L2 MU CM OF (Lib.hid (AD 0 0 131 (by decide) (sclRes_no hk))) SU (Lib.hid (NS _ (fits_f hk kb))) SB TK NT
end Go.Proofs.Ytpjdojnbajoafaa
