/- The laws of chapter 05, FracTells, FracOver, FracMoves: true, whatever the input. -/
import Derived.Test.YtpjdojnbajoafaaFf
import Derived.Test.YtpjdojnbajoafaaFg
import Derived.Test.YtpjdojnbajoafaaFh
import Derived.Test.YtpjdojnbajoafaaFi
import Derived.Test.YtpjdojnbajoafaaFj
import Derived.Test.YtpjdojnbajoafaaFk
namespace Go.Proofs.Ytpjdojnbajoafaa
open Go Go.RowKit

theorem okN_wt {n x : Nat} (h : okN n x = true) : wt x = true := wt_iff.2 (okN_iff.1 h).1
theorem fractells_any (n x m y k : Nat) (w : World) (hm : m < 2 ^ 128) (hk : k < 2 ^ 64) :
    Calls Try.prog 10 #[nf n x, nf m y, .int .u64 k] w fun e w' => e = .returned (.bool true) ∧ Below w.heap.size w w' := by
  have R := dRRight n x
  have RB := dRRight m y
  have WB := dWeight y
  by_cases ha : okN n x = true
  · obtain ⟨⟨a1, a2⟩, a3⟩ := okN_iff.1 ha
    rw [ha] at R
    have q1 : n / x < 2 ^ 128 := Nat.lt_of_le_of_lt (Nat.div_le_self _ _) (to128 a3)
    have OA := Lib.hid (dROfN (to128 a3)); have OX := Lib.hid (dROfLo (show x < 2 ^ 64 by omega))
    have Q := Lib.hid (dQuot (a := n) (d := x) (Nat.lt_trans (to128 a3) (by decide)) (by omega) (by omega))
    have NU := Lib.hid (dNumberN q1)
    by_cases hb : okN m y = true
    · rw [hb] at RB; rw [okN_wt hb] at WB
      exact tells_111 _ _ x _ _ y k _ _ n _ _ w _ (Lib.hid R) (Lib.hid (dCheckY ha)) (Lib.hid (dFOfY (okN_wt hb))) (Lib.hid WB) (Lib.hid (dFCmpY ha hb)) (Lib.hid RB) (Lib.hid (dRCmp ha hb)) (Lib.hid (dWholeY ha)) OA OX Q NU
    · have hb' : okN m y = false := by simpa using hb
      rw [hb'] at RB
      by_cases hy : wt y = true
      · rw [hy] at WB
        exact tells_101 _ _ x _ _ y k _ _ n _ _ w 0 (Lib.hid R) (Lib.hid (dCheckY ha)) (Lib.hid (dFOfY hy)) (Lib.hid WB) (Lib.hid (dFCmpN (.inr hb'))) (Lib.hid RB) (Lib.hid (dWholeY ha)) OA OX Q NU
      · have hy' : wt y = false := by simpa using hy
        rw [hy'] at WB
        exact tells_100 _ _ x _ _ y k _ _ n _ _ w 0 (Lib.hid R) (Lib.hid (dCheckY ha)) (Lib.hid (dFOfN hy')) (Lib.hid WB) (Lib.hid (dFCmpN (.inr hb'))) (Lib.hid RB) (Lib.hid (dWholeY ha)) OA OX Q NU
  · have ha' : okN n x = false := by simpa using ha
    rw [ha'] at R
    by_cases hy : wt y = true
    · rw [hy] at WB
      exact tells_001 _ _ x _ _ y k 0 0 0 0 0 w 0 (Lib.hid R) (Lib.hid (dCheckN ha')) (Lib.hid (dFOfY hy)) (Lib.hid WB) (Lib.hid (dFCmpN (.inl ha'))) (Lib.hid (dWholeN ha'))
    · have hy' : wt y = false := by simpa using hy
      rw [hy'] at WB
      exact tells_000 _ _ x _ _ y k 0 0 0 0 0 w 0 (Lib.hid R) (Lib.hid (dCheckN ha')) (Lib.hid (dFOfN hy')) (Lib.hid WB) (Lib.hid (dFCmpN (.inl ha'))) (Lib.hid (dWholeN ha'))

theorem scl_self' (n m : Nat) (hm : 0 < m) : scl n m m true = n := by rw [scl_up', Nat.mul_div_cancel _ hm, if_neg (by simp)]; rfl
theorem scl_ge' (n m d : Nat) (hd : 0 < d) : n * m ≤ scl n m d true * d := by
  rw [scl_up', Nat.add_mul, Nat.mul_comm (n * m / d) d]
  have e := Nat.div_add_mod (n * m) d
  have hl := Nat.mod_lt (n * m) hd
  by_cases hr : n * m % d = 0
  · rw [if_neg (by simpa using hr)]; omega
  · rw [if_pos hr, Nat.one_mul]; omega
/-- Rounded up, it is less than one too great. -/
theorem scl_lt' (n m d : Nat) (hd : 0 < d) (hv : 0 < scl n m d true) : (scl n m d true - 1) * d < n * m := by
  have e := Nat.div_add_mod (n * m) d
  rw [scl_up'] at hv ⊢
  by_cases hr : n * m % d = 0
  · rw [if_neg (by simpa using hr), Nat.add_zero] at hv ⊢
    rw [Nat.sub_mul, Nat.one_mul, Nat.mul_comm _ d]
    have : d * 1 ≤ d * (n * m / d) := Nat.mul_le_mul_left d hv
    omega
  · rw [if_pos hr, Nat.add_sub_cancel, Nat.mul_comm _ d]; omega
theorem scl_zero {n m d : Nat} (hd : 0 < d) (hm : 0 < m) (h : scl n m d true = 0) : n = 0 := by
  have := scl_ge' n m d hd
  rw [h, Nat.zero_mul] at this
  rcases Nat.mul_eq_zero.1 (Nat.le_zero.1 this) with h | h
  · exact h
  · omega
theorem c3_ge {a b : Nat} (h : b ≤ a) : ¬ c3 (a : Int) (b : Int) < 0 := by rw [c3_neg']; omega
theorem c3_lt0 {a b : Nat} (h : a < b) : c3 (a : Int) (b : Int) < 0 := (c3_neg' a b).2 h

theorem fracover_any (n x y : Nat) (w : World) (hn : n < 2 ^ 128) (hy64 : y < 2 ^ 64) :
    Calls Try.prog 11 #[nf n x, .int .u64 y] w fun e w' => e = .returned (.bool true) ∧ Below w.heap.size w w' := by
  by_cases ha : okN n x = true
  · obtain ⟨⟨a1, a2⟩, a3⟩ := okN_iff.1 ha
    have e1 : scl n x x true = n := scl_self' n x (by omega)
    have O1 := dFOverY ha (okN_wt ha) (by rw [e1]; exact a3)
    rw [e1] at O1
    by_cases hy : wt y = true
    · obtain ⟨b1, b2⟩ := wt_iff.1 hy
      by_cases hv : scl n y x true < 2 ^ 100
      · have hok : okN (scl n y x true) y = true := okN_iff.2 ⟨⟨b1, b2⟩, hv⟩
        have O2 := dFOverY ha hy hv
        have C := dFCmpY hok ha
        by_cases h0 : scl n y x true = 0
        · have n0 := scl_zero (by omega) (by omega) h0
          subst n0
          rw [h0] at O2 C
          have K := dCheckY ha
          have hs : ¬ c3 ((0 * x : Nat) : Int) ((0 * y : Nat) : Int) < 0 := c3_ge (by omega)
          rw [nf_zero, nf_zero] at O2
          rw [nf_zero, nf_zero] at C
          rw [nf_zero] at O1 K ⊢
          exact lover_zero 0 0 x y 0 0 0 0 w (Lib.hid O1) (Lib.hid K) _ 0 (Lib.hid O2) (Lib.hid C) hs
        · have L := dFLessY (k := 1) hok (by decide)
          have hlt := scl_lt' n y x (by omega) (by omega)
          exact lover_pos _ _ x y _ _ _ _ w (Lib.hid O1) (Lib.hid (dCheckY ha)) _ _ (Lib.hid O2) (Lib.hid C) (c3_ge (scl_ge' n y x (by omega))) (by omega) (Lib.hid L) (Lib.hid (dFCmpY (okN_le hok (Nat.sub_le _ 1)) ha)) (c3_lt0 hlt)
      · exact lover_e131 _ _ x y 0 0 0 0 w (Lib.hid O1) (Lib.hid (dCheckY ha)) (Lib.hid (dFOverE ha hy hv))
    · exact lover_e2 _ _ x y 0 0 0 0 w (Lib.hid O1) (Lib.hid (dCheckY ha)) (Lib.hid (dFOverA ha (by simpa using hy)))
  · have ha' : okN n x = false := by simpa using ha
    exact lover_bad _ _ x y 0 0 0 0 w (Lib.hid (dFOverN ha')) (Lib.hid (dCheckN ha'))

theorem fracmoves_any (n x k y : Nat) (w : World) (hk : k < 2 ^ 64) (hy64 : y < 2 ^ 64) :
    Calls Try.prog 12 #[nf n x, .int .u64 k, .int .u64 y] w fun e w' => e = .returned (.bool true) ∧ Below w.heap.size w w' := by
  have R := dRRight n x
  by_cases ha : okN n x = true
  · obtain ⟨⟨a1, a2⟩, a3⟩ := okN_iff.1 ha
    rw [ha] at R
    have L := Lib.hid (dFLessY ha hk)
    have N1 := Lib.hid (dROfN (to128 a3)); have K1 := Lib.hid (dROfLo hk)
    have RL := Lib.hid (dRLess (to128 a3) (show k < 2 ^ 128 by omega))
    have WB := dWeight y
    by_cases hs : n + k < 2 ^ 100
    · have A1 := Lib.hid (dFAddY ha hk hs); have A2 := Lib.hid (dRAddY (x := x) a3 hk hs)
      by_cases hy : wt y = true
      · rw [hy] at WB
        by_cases hv : scl n y x true < 2 ^ 100
        · exact lmoves_a1w1o1 _ _ x k y n _ _ _ _ _ _ w A1 L (Lib.hid (dFOverY ha hy hv)) (Lib.hid R) A2 N1 K1 RL (Lib.hid WB) (Lib.hid (dROverY ha hy hv))
        · exact lmoves_a1w1o0 _ _ x k y n _ _ _ _ _ _ w A1 L (Lib.hid (dFOverE ha hy hv)) (Lib.hid R) A2 N1 K1 RL (Lib.hid WB) (Lib.hid (dROverN ha hy hv))
      · have hy' : wt y = false := by simpa using hy
        rw [hy'] at WB
        exact lmoves_a1w0 _ _ x k y n _ _ _ _ 0 0 w A1 L (Lib.hid (dFOverA ha hy')) (Lib.hid R) A2 N1 K1 RL (Lib.hid WB)
    · have A1 := Lib.hid (dFAddE ha hk hs); have A2 := Lib.hid (dRAddN (x := x) a3 hk hs)
      by_cases hy : wt y = true
      · rw [hy] at WB
        by_cases hv : scl n y x true < 2 ^ 100
        · exact lmoves_a0w1o1 _ _ x k y n _ _ _ _ _ _ w A1 L (Lib.hid (dFOverY ha hy hv)) (Lib.hid R) A2 N1 K1 RL (Lib.hid WB) (Lib.hid (dROverY ha hy hv))
        · exact lmoves_a0w1o0 _ _ x k y n _ _ _ _ _ _ w A1 L (Lib.hid (dFOverE ha hy hv)) (Lib.hid R) A2 N1 K1 RL (Lib.hid WB) (Lib.hid (dROverN ha hy hv))
      · have hy' : wt y = false := by simpa using hy
        rw [hy'] at WB
        exact lmoves_a0w0 _ _ x k y n _ _ _ _ 0 0 w A1 L (Lib.hid (dFOverA ha hy')) (Lib.hid R) A2 N1 K1 RL (Lib.hid WB)
  · have ha' : okN n x = false := by simpa using ha
    rw [ha'] at R
    exact lmoves_bad _ _ x k y 0 0 0 0 0 0 0 w (Lib.hid (dFAddN ha')) (Lib.hid (dFLessN ha')) (Lib.hid (dFOverN ha')) (Lib.hid R)
end Go.Proofs.Ytpjdojnbajoafaa
