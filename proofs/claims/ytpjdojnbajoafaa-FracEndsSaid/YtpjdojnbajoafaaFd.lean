/- frac's functions and the reference's, told by numbers. -/
import Derived.Test.YtpjdojnbajoafaaFc
namespace Go.Proofs.Ytpjdojnbajoafaa
open Go Go.RowKit

abbrev nv (n : Nat) : Value := wv (n / 2 ^ 64) (n % 2 ^ 64)
abbrev nf (n x : Nat) : Value := fv (n / 2 ^ 64) (n % 2 ^ 64) x
def okN (n x : Nat) : Bool := okF (n / 2 ^ 64) x
theorem okN_iff {n x : Nat} : okN n x = true ↔ (1 ≤ x ∧ x ≤ 65535) ∧ n < 2 ^ 100 := by
  unfold okN okF
  rw [Bool.and_eq_true, wt_iff, decide_eq_true_eq]
  omega
theorem okN_no {n x : Nat} (h : ¬ ((1 ≤ x ∧ x ≤ 65535) ∧ n < 2 ^ 100)) : okN n x = false := by
  cases e : okN n x with
  | false => rfl
  | true => exact absurd (okN_iff.1 e) h
theorem hi128 {n : Nat} (h : n < 2 ^ 128) : n / 2 ^ 64 < 2 ^ 64 := by omega
theorem hi100 {n : Nat} (h : n < 2 ^ 100) : n / 2 ^ 64 < 68719476736 := by omega
theorem hi100' {n : Nat} (h : ¬ n < 2 ^ 100) : 68719476736 ≤ n / 2 ^ 64 := by omega
theorem to128 {n : Nat} (h : n < 2 ^ 100) : n < 2 ^ 128 := by omega
theorem scl_up' (n m d : Nat) : scl n m d true = n * m / d + (if n * m % d ≠ 0 then 1 else 0) := by
  unfold scl
  by_cases h : n * m % d = 0 <;> simp [h]
theorem scl_one (n m : Nat) : scl n m 1 true = n * m := by rw [scl_up', Nat.div_one, if_neg (by simp [Nat.mod_one])]; rfl

theorem dScaleN {n m d : Nat} (hn : n < 2 ^ 128) (hm : m < 2 ^ 64) (hd0 : 0 < d) (hd : d < 2 ^ 64) (hv : scl n m d true < 2 ^ 128) : Dt 17 #[nv n, .int .u64 m, .int .u64 d] (.tuple #[nv (scl n m d true), .int .i64 0]) :=
  dScale (hi128 hn) (half_lt n) (halves n) hm hd0 hd (half_lt _) (sclRes_yes hv (halves _))
theorem dScaleE {n m d : Nat} (hn : n < 2 ^ 128) (hm : m < 2 ^ 64) (hd0 : 0 < d) (hd : d < 2 ^ 64) (hv : ¬ scl n m d true < 2 ^ 128) : Dt 17 #[nv n, .int .u64 m, .int .u64 d] (.tuple #[wv 0 0, .int .i64 131]) :=
  dScale (hi128 hn) (half_lt n) (halves n) hm hd0 hd (by decide) (sclRes_no hv)
theorem dAddN {n m : Nat} (hn : n < 2 ^ 128) (hm : m < 2 ^ 128) (hv : n + m < 2 ^ 128) : Dt 24 #[nv n, nv m] (.tuple #[nv (n + m), .int .i64 0]) :=
  dAdd (hi128 hn) (half_lt n) (halves n) (hi128 hm) (half_lt m) (halves m) (half_lt _) (sclRes_yes hv (halves _))
theorem dAddE {n m : Nat} (hn : n < 2 ^ 128) (hm : m < 2 ^ 128) (hv : ¬ n + m < 2 ^ 128) : Dt 24 #[nv n, nv m] (.tuple #[wv 0 0, .int .i64 131]) :=
  dAdd (hi128 hn) (half_lt n) (halves n) (hi128 hm) (half_lt m) (halves m) (by decide) (sclRes_no hv)
theorem dSubN {n m : Nat} (hn : n < 2 ^ 128) (hm : m < 2 ^ 128) (hv : m ≤ n) : Dt 30 #[nv n, nv m] (.tuple #[nv (n - m), .int .i64 0]) :=
  dSubYes (hi128 hn) (half_lt n) (halves n) (hi128 hm) (half_lt m) (halves m) hv (half_lt _) (halves _)
theorem dSubE {n m : Nat} (hv : n < m) : Dt 30 #[nv n, nv m] (.tuple #[.agg #[.int .u64 0, .int .u64 0], .int .i64 131]) :=
  dSubNo (half_lt n) (halves n) (half_lt m) (halves m) hv
theorem dCompareN (n m : Nat) : Dt 23 #[nv n, nv m] (.int .i64 (c3 n m)) := dCompare (half_lt n) (half_lt m) (halves n) (halves m)
theorem dMulN {a b : Nat} (ha : a < 2 ^ 64) (hb : b < 2 ^ 64) : Dt 27 #[.int .u64 a, .int .u64 b] (nv (a * b)) := dMul ha hb (half_lt _) (halves _)
theorem nv_lo {k : Nat} (hk : k < 2 ^ 64) : nv k = .agg #[.int .u64 0, .int .u64 k] := by
  have h1 : k / 2 ^ 64 = 0 := by omega
  have h2 : k % 2 ^ 64 = k := by omega
  show Value.agg #[.int .u64 (k / 2 ^ 64 : Nat), .int .u64 (k % 2 ^ 64 : Nat)] = _
  rw [h1, h2]; rfl
theorem dOfN {k : Nat} (hk : k < 2 ^ 64) : Dt 28 #[.int .u64 k] (nv k) := by rw [nv_lo hk]; exact dOf k
theorem dDivN {n d : Nat} (hn : n < 2 ^ 128) (hd0 : 0 < d) (hd : d < 2 ^ 64) : Dt 16 #[nv n, .int .u64 d] (.tuple #[nv (n / d), .int .u64 (n % d : Nat), .int .i64 0]) := dDiv (hi128 hn) (half_lt n) (halves n) hd0 hd (half_lt _) (halves _)
theorem dROfN {n : Nat} (hn : n < 2 ^ 128) : Dt 19 #[nv n] (.agg (bA n)) := dROf (hi128 hn) (half_lt n) (halves n)
theorem dNumberN {b : Nat} (hb : b < 2 ^ 128) : Dt 20 #[.agg (bA b)] (.tuple #[nv b, .bool true]) := dNumber (half_lt b) (by rw [halves, Nat.mod_eq_of_lt hb]) (fits_t hb)
theorem dNumberE {b : Nat} (hb : ¬ b < 2 ^ 128) (h2 : b < 2 ^ 224) : Dt 20 #[.agg (bA b)] (.tuple #[nv (b % 2 ^ 128), .bool false]) := dNumber (half_lt _) (halves _) (fits_f hb h2)

/- frac -/
theorem x64 {n x : Nat} (h : okN n x = true) : x < 2 ^ 64 := by have := okN_iff.1 h; omega
theorem dCheckY {n x : Nat} (h : okN n x = true) : Dt 39 #[nf n x] (.int .i64 0) := fun w => check_yes _ _ _ w h
theorem dCheckN {n x : Nat} (h : okN n x = false) : Dt 39 #[nf n x] (.int .i64 150) := fun w => check_no _ _ _ w h
theorem dFOfY {n x : Nat} (h : wt x = true) : Dt 40 #[.int .u64 n, .int .u64 x] (.tuple #[.agg #[.int .u64 0, .int .u64 n, .int .u64 x], .int .i64 0]) := fun w =>
  fof_yes n x w (Lib.hid (by rw [← h]; exact dweight x)) (Lib.hid (dOf n))
theorem dFOfN {n x : Nat} (h : wt x = false) : Dt 40 #[.int .u64 n, .int .u64 x] (.tuple #[.agg #[.int .u64 0, .int .u64 0, .int .u64 0], .int .i64 2]) := fun w =>
  fof_no n x w h (Lib.hid (by rw [← h]; exact dweight x))
theorem mul116 {n x : Nat} (hn : n < 2 ^ 100) (hx : x ≤ 65535) : n * x < 2 ^ 116 := Nat.lt_of_le_of_lt (Nat.mul_le_mul (Nat.le_of_lt_succ hn) hx) (by decide)
theorem dTimes {n x : Nat} (hn : n < 2 ^ 100) (hx : x ≤ 65535) : Dt 66 #[nv n, .int .u64 x] (nv (n * x)) := fun w => by
  have h1 := mul116 hn hx
  have h2 : scl n x 1 true < 2 ^ 128 := by rw [scl_one]; omega
  have := dScaleN (to128 hn) (show x < 2 ^ 64 by omega) (by decide : 0 < 1) (by decide) h2
  rw [scl_one] at this
  exact times_w _ _ x _ _ 0 w (Lib.hid this)
theorem okB {n x m y : Nat} (h1 : okN n x = true) (h2 : okN m y = true) : (okF (n / 2 ^ 64) x && okF (m / 2 ^ 64) y) = true := by
  unfold okN at h1 h2; rw [h1, h2]; rfl
theorem okB_no {n x m y : Nat} (h : okN n x = false ∨ okN m y = false) : (okF (n / 2 ^ 64) x && okF (m / 2 ^ 64) y) = false := by
  unfold okN at h; rcases h with h | h <;> rw [h] <;> simp
theorem dFCmpY {n x m y : Nat} (h1 : okN n x = true) (h2 : okN m y = true) : Dt 42 #[nf n x, nf m y] (.int .i64 (c3 (n * y : Nat) (m * x : Nat))) := fun w => by
  obtain ⟨⟨a1, a2⟩, a3⟩ := okN_iff.1 h1
  obtain ⟨⟨b1, b2⟩, b3⟩ := okN_iff.1 h2
  exact fcmp_yes _ _ x _ _ y _ _ _ _ w _ (okB h1 h2) (Lib.hid (dTimes a3 b2)) (Lib.hid (dTimes b3 a2)) (Lib.hid (dCompareN _ _))
theorem dFCmpN {n x m y : Nat} (h : okN n x = false ∨ okN m y = false) : Dt 42 #[nf n x, nf m y] (.int .i64 0) := fun w => fcmp_no _ _ x _ _ y w (okB_no h)
theorem dWithOk {n x m : Nat} (hm : m < 2 ^ 100) : Dt 67 #[nf n x, nv m, .int .i64 0] (.tuple #[nf m x, .int .i64 0]) := fun w => with_ok _ _ x _ _ w (hi100 hm)
theorem dWithBig {n x m : Nat} (hm : ¬ m < 2 ^ 100) : Dt 67 #[nf n x, nv m, .int .i64 0] (.tuple #[fv 0 0 0, .int .i64 131]) := fun w => with_big _ _ x _ _ w (hi100' hm)
theorem dWithErr {h l x A B : Nat} : Dt 67 #[fv h l x, wv A B, .int .i64 131] (.tuple #[fv 0 0 0, .int .i64 131]) := fun w => with_err h l x A B 131 w (by decide)
theorem dFAddN {n x k : Nat} (h : okN n x = false) : Dt 46 #[nf n x, .int .u64 k] (.tuple #[.agg #[.int .u64 0, .int .u64 0, .int .u64 0], .int .i64 150]) := fun w => fadd_no _ _ x k w h
theorem dFAddY {n x k : Nat} (h : okN n x = true) (hk : k < 2 ^ 64) (hs : n + k < 2 ^ 100) : Dt 46 #[nf n x, .int .u64 k] (.tuple #[nf (n + k) x, .int .i64 0]) := fun w => by
  have a3 := (okN_iff.1 h).2
  have hA := dAddN (to128 a3) (show k < 2 ^ 128 by omega) (to128 hs)
  rw [nv_lo hk] at hA
  exact fadd_yes _ _ x k _ _ 0 _ _ x 0 w h (Lib.hid (dOf k)) (Lib.hid hA) (Lib.hid (dWithOk hs))
theorem dFAddE {n x k : Nat} (h : okN n x = true) (hk : k < 2 ^ 64) (hs : ¬ n + k < 2 ^ 100) : Dt 46 #[nf n x, .int .u64 k] (.tuple #[fv 0 0 0, .int .i64 131]) := fun w => by
  have a3 := (okN_iff.1 h).2
  have hA := dAddN (to128 a3) (show k < 2 ^ 128 by omega) (show n + k < 2 ^ 128 by omega)
  rw [nv_lo hk] at hA
  exact fadd_yes _ _ x k _ _ 0 0 0 0 131 w h (Lib.hid (dOf k)) (Lib.hid hA) (Lib.hid (dWithBig hs))
theorem dFLessN {n x k : Nat} (h : okN n x = false) : Dt 45 #[nf n x, .int .u64 k] (.tuple #[.agg #[.int .u64 0, .int .u64 0, .int .u64 0], .int .i64 150]) := fun w => fless_no _ _ x k w h
theorem nf_zero (x : Nat) : nf 0 x = .agg #[.int .u64 0, .int .u64 0, .int .u64 x] := rfl
theorem nv_zero : nv 0 = .agg #[.int .u64 0, .int .u64 0] := rfl
theorem dFLessY {n x k : Nat} (h : okN n x = true) (hk : k < 2 ^ 64) : Dt 45 #[nf n x, .int .u64 k] (.tuple #[nf (n - k) x, .int .i64 0]) := fun w => by
  have a3 := (okN_iff.1 h).2
  by_cases hs : k ≤ n
  · have hS := dSubN (to128 a3) (show k < 2 ^ 128 by omega) hs
    rw [nv_lo hk] at hS
    exact fless_ok _ _ x k _ _ w h (Lib.hid (dOf k)) (Lib.hid hS)
  · have hS := dSubE (n := n) (m := k) (by omega)
    rw [nv_lo hk] at hS
    rw [show n - k = 0 by omega, nf_zero]
    exact fless_low _ _ x k 0 0 w h (Lib.hid (dOf k)) (Lib.hid hS)
theorem dFOverN {n x y : Nat} (h : okN n x = false) : Dt 44 #[nf n x, .int .u64 y] (.tuple #[.agg #[.int .u64 0, .int .u64 0, .int .u64 0], .int .i64 150]) := fun w => fover_no _ _ x y w h
theorem dFOverA {n x y : Nat} (h : okN n x = true) (hy : wt y = false) : Dt 44 #[nf n x, .int .u64 y] (.tuple #[.agg #[.int .u64 0, .int .u64 0, .int .u64 0], .int .i64 2]) := fun w =>
  fover_arg _ _ x y w h (Lib.hid (by rw [← hy]; exact dweight y))
theorem dFOverY {n x y : Nat} (h : okN n x = true) (hy : wt y = true) (hv : scl n y x true < 2 ^ 100) : Dt 44 #[nf n x, .int .u64 y] (.tuple #[nf (scl n y x true) y, .int .i64 0]) := fun w => by
  obtain ⟨⟨a1, a2⟩, a3⟩ := okN_iff.1 h
  have hy2 := (wt_iff.1 hy).2
  exact fover_yes _ _ x y _ _ 0 _ _ y 0 w h (Lib.hid (by rw [← hy]; exact dweight y)) (Lib.hid (dScaleN (to128 a3) (by omega) (by omega) (by omega) (to128 hv))) (Lib.hid (dWithOk (n := 0) hv))
theorem dFOverE {n x y : Nat} (h : okN n x = true) (hy : wt y = true) (hv : ¬ scl n y x true < 2 ^ 100) : Dt 44 #[nf n x, .int .u64 y] (.tuple #[fv 0 0 0, .int .i64 131]) := fun w => by
  obtain ⟨⟨a1, a2⟩, a3⟩ := okN_iff.1 h
  have hy2 := (wt_iff.1 hy).2
  by_cases hv2 : scl n y x true < 2 ^ 128
  · exact fover_yes _ _ x y _ _ 0 0 0 0 131 w h (Lib.hid (by rw [← hy]; exact dweight y)) (Lib.hid (dScaleN (to128 a3) (by omega) (by omega) (by omega) hv2)) (Lib.hid (dWithBig (n := 0) hv))
  · exact fover_yes _ _ x y 0 0 131 0 0 0 131 w h (Lib.hid (by rw [← hy]; exact dweight y)) (Lib.hid (dScaleE (to128 a3) (by omega) (by omega) (by omega) hv2)) (Lib.hid (dWithErr (h := 0) (l := 0) (x := y) (A := 0) (B := 0)))
theorem dWholeN {n x : Nat} (h : okN n x = false) : Dt 43 #[nf n x] (.tuple #[.agg #[.int .u64 0, .int .u64 0], .int .i64 150]) := fun w => fwhole_no _ _ x w h
theorem dWholeY {n x : Nat} (h : okN n x = true) : Dt 43 #[nf n x] (.tuple #[nv (n / x), .int .i64 0]) := fun w => by
  obtain ⟨⟨a1, a2⟩, a3⟩ := okN_iff.1 h
  exact fwhole_yes _ _ x _ _ _ w h (Lib.hid (dDivN (to128 a3) (by omega) (by omega)))
theorem dFloor {n x k : Nat} (hn : n < 2 ^ 128) (hx : x < 2 ^ 64) (hk : k < 2 ^ 64) : Dt 70 #[nf n x, .int .u64 k] (nf (n - k * x) x) := fun w => by
  have hkx : k * x < 2 ^ 128 := Nat.lt_of_lt_of_le (Nat.mul_lt_mul'' hk hx) (by decide)
  by_cases hs : k * x ≤ n
  · exact ffloor_ok _ _ x k _ _ _ _ w (Lib.hid (dMulN hk hx)) (Lib.hid (dSubN hn hkx hs))
  · rw [show n - k * x = 0 by omega, nf_zero]
    exact ffloor_low _ _ x k _ _ 0 0 w (Lib.hid (dMulN hk hx)) (Lib.hid (dSubE (by omega)))
theorem okN_le {n m x : Nat} (h : okN n x = true) (hm : m ≤ n) : okN m x = true := by
  have := okN_iff.1 h
  exact okN_iff.2 ⟨this.1, by omega⟩
/-- Is n over x more than k below m over y? -/
def behB (n x m y k : Nat) : Bool := decide (n * y < (m - k * y) * x)
theorem c3_neg' (a b : Nat) : c3 (a : Int) (b : Int) < 0 ↔ a < b := by rw [c3_neg]; omega
theorem dBehindN {n x m y k : Nat} (h : okN n x = false ∨ okN m y = false) : Dt 51 #[nf n x, nf m y, .int .u64 k] (.bool false) := fun w => fbehind_no _ _ x _ _ y k w (okB_no h)
theorem dBehindY {n x m y k : Nat} (h1 : okN n x = true) (h2 : okN m y = true) (hk : k < 2 ^ 64) : Dt 51 #[nf n x, nf m y, .int .u64 k] (.bool (behB n x m y k)) := fun w => by
  have b3 := (okN_iff.1 h2).2
  have hF := dFloor (to128 b3) (x64 h2) hk
  have hC := dFCmpY h1 (okN_le h2 (Nat.sub_le m (k * y)))
  by_cases hb : n * y < (m - k * y) * x
  · rw [show behB n x m y k = true from decide_eq_true hb]
    exact fbehind_true _ _ x _ _ y k _ _ w _ (okB h1 h2) (Lib.hid hF) (Lib.hid hC) ((c3_neg' _ _).2 hb)
  · rw [show behB n x m y k = false from decide_eq_false hb]
    exact fbehind_false _ _ x _ _ y k _ _ w _ (okB h1 h2) (Lib.hid hF) (Lib.hid hC) (fun h => hb ((c3_neg' _ _).1 h))
theorem dRaiseN {n x m y k : Nat} (h : okN n x = false ∨ okN m y = false) : Dt 50 #[nf n x, nf m y, .int .u64 k] (.tuple #[.agg #[.int .u64 0, .int .u64 0, .int .u64 0], .int .i64 150]) := fun w => fraise_no _ _ x _ _ y k w (okB_no h)
theorem dRaiseS {n x m y k : Nat} (h1 : okN n x = true) (h2 : okN m y = true) (hk : k < 2 ^ 64) (hb : behB n x m y k = false) : Dt 50 #[nf n x, nf m y, .int .u64 k] (.tuple #[nf n x, .int .i64 0]) := fun w =>
  fraise_same _ _ x _ _ y k w (okB h1 h2) (Lib.hid (by rw [← hb]; exact dBehindY h1 h2 hk))
theorem dRaiseU {n x m y k : Nat} (h1 : okN n x = true) (h2 : okN m y = true) (hk : k < 2 ^ 64) (hb : behB n x m y k = true) (hv : scl (m - k * y) x y true < 2 ^ 100) : Dt 50 #[nf n x, nf m y, .int .u64 k] (.tuple #[nf (scl (m - k * y) x y true) x, .int .i64 0]) := fun w => by
  have b3 := (okN_iff.1 h2).2
  have hx : wt x = true := wt_iff.2 (okN_iff.1 h1).1
  exact fraise_up _ _ x _ _ y k _ _ _ _ x 0 w (okB h1 h2) (Lib.hid (by rw [← hb]; exact dBehindY h1 h2 hk)) (Lib.hid (dFloor (to128 b3) (x64 h2) hk)) (Lib.hid (dFOverY (okN_le h2 (Nat.sub_le m (k * y))) hx hv))
theorem dRaiseE {n x m y k : Nat} (h1 : okN n x = true) (h2 : okN m y = true) (hk : k < 2 ^ 64) (hb : behB n x m y k = true) (hv : ¬ scl (m - k * y) x y true < 2 ^ 100) : Dt 50 #[nf n x, nf m y, .int .u64 k] (.tuple #[fv 0 0 0, .int .i64 131]) := fun w => by
  have b3 := (okN_iff.1 h2).2
  have hx : wt x = true := wt_iff.2 (okN_iff.1 h1).1
  exact fraise_up _ _ x _ _ y k _ _ 0 0 0 131 w (okB h1 h2) (Lib.hid (by rw [← hb]; exact dBehindY h1 h2 hk)) (Lib.hid (dFloor (to128 b3) (x64 h2) hk)) (Lib.hid (dFOverE (okN_le h2 (Nat.sub_le m (k * y))) hx hv))

/- the reference -/
theorem dRRight (n x : Nat) : Dt 37 #[nf n x] (.bool (okN n x)) := fun w => by
  unfold okN
  rcases okF_cases (n / 2 ^ 64) x with ⟨e1, e2, e3⟩ | ⟨e1, e2⟩ | ⟨e1, e2, e3⟩
  · rw [e3]; exact rright_yes _ _ x w (Lib.hid (by rw [← e1]; exact dWeight x)) e2
  · rw [e2]; exact rright_no _ _ x w (Lib.hid (by rw [← e1]; exact dWeight x))
  · rw [e3]; exact rright_big _ _ x w (Lib.hid (by rw [← e1]; exact dWeight x)) e2
theorem dRBits {k : Nat} (hk : k < 2 ^ 64) : Dt 69 #[.int .u64 k] (.agg (bA k)) := fun w => rbits_w k w (Lib.hid (dROfLo hk))
theorem dRCmp {n x m y : Nat} (h1 : okN n x = true) (h2 : okN m y = true) : Dt 38 #[nf n x, nf m y] (.int .i64 (c3 (n * y : Nat) (m * x : Nat))) := fun w => by
  obtain ⟨⟨a1, a2⟩, a3⟩ := okN_iff.1 h1
  obtain ⟨⟨b1, b2⟩, b3⟩ := okN_iff.1 h2
  have p1 : n * y < 2 ^ 256 := Nat.lt_trans (mul116 a3 b2) (by decide)
  have p2 : m * x < 2 ^ 256 := Nat.lt_trans (mul116 b3 a2) (by decide)
  have L1 := dLess p1 p2
  have L2 := dLess p2 p1
  have O1 := Lib.hid (dROfN (to128 a3)); have O2 := Lib.hid (dROfN (to128 b3))
  have P1 := Lib.hid (dProduct n (show y < 2 ^ 64 by omega)); have P2 := Lib.hid (dProduct m (show x < 2 ^ 64 by omega))
  rcases Nat.lt_trichotomy (n * y) (m * x) with g | g | g
  · rw [decide_eq_true g] at L1; rw [decide_eq_false (by omega)] at L2; rw [c3_lt g]
    exact rcmp_lt _ _ x _ _ y n m _ _ w O1 P1 O2 P2 (Lib.hid L1) (Lib.hid L2)
  · rw [decide_eq_false (by omega)] at L1; rw [decide_eq_false (by omega)] at L2; rw [g, c3_eq]
    rw [g] at P1 L1 L2
    exact rcmp_eq _ _ x _ _ y n m _ _ w O1 P1 O2 P2 (Lib.hid L1) (Lib.hid L2)
  · rw [decide_eq_false (by omega)] at L1; rw [decide_eq_true g] at L2; rw [c3_gt g]
    exact rcmp_gt _ _ x _ _ y n m _ _ w O1 P1 O2 P2 (Lib.hid L1) (Lib.hid L2)
theorem dRNumY {b : Nat} (hb : b < 2 ^ 100) : Dt 68 #[.agg (bA b)] (.tuple #[nv b, .bool true]) := fun w => rnum_ok b _ _ w (Lib.hid (dNumberN (to128 hb))) (hi100 hb)
theorem dRNumN {b : Nat} (hb : ¬ b < 2 ^ 100) (h2 : b < 2 ^ 224) : Dt 68 #[.agg (bA b)] (.tuple #[nv 0, .bool false]) := fun w => by
  by_cases h1 : b < 2 ^ 128
  · exact rnum_big b _ _ w (Lib.hid (dNumberN h1)) (hi100' hb)
  · exact rnum_no b _ _ w (Lib.hid (dNumberE h1 h2))
theorem dRAddY {n x k : Nat} (hn : n < 2 ^ 100) (hk : k < 2 ^ 64) (hs : n + k < 2 ^ 100) : Dt 47 #[nf n x, .int .u64 k] (.tuple #[nv (n + k), .bool true]) := fun w =>
  radd_w _ _ x k n _ _ _ w true (Lib.hid (dROfN (to128 hn))) (Lib.hid (dRBits hk)) (Lib.hid (dSum n k)) (Lib.hid (dRNumY hs))
theorem dRAddN {n x k : Nat} (hn : n < 2 ^ 100) (hk : k < 2 ^ 64) (hs : ¬ n + k < 2 ^ 100) : Dt 47 #[nf n x, .int .u64 k] (.tuple #[nv 0, .bool false]) := fun w =>
  radd_w _ _ x k n _ 0 0 w false (Lib.hid (dROfN (to128 hn))) (Lib.hid (dRBits hk)) (Lib.hid (dSum n k)) (Lib.hid (dRNumN hs (by omega)))
theorem dRLess {a b : Nat} (ha : a < 2 ^ 128) (hb : b < 2 ^ 128) : Dt 48 #[.agg (bA a), .agg (bA b)] (nv (a - b)) := fun w => by
  have g : ∀ v, v < 2 ^ 128 → v < 2 ^ 256 := fun v hv => Nat.lt_trans hv (by decide)
  have L := dLess (g a ha) (g b hb)
  by_cases h : a < b
  · rw [decide_eq_true h] at L
    rw [show a - b = 0 by omega, nv_zero]
    exact rless_low a b w (Lib.hid L)
  · rw [decide_eq_false h] at L
    exact rless_ok a b _ _ _ w true (Lib.hid L) (Lib.hid (dTake (g a ha) (by omega))) (Lib.hid (dNumberN (by omega)))
theorem dROver {n x y : Nat} (h : okN n x = true) (hy : wt y = true) {A : Nat} {f : Bool} (hN : Dt 68 #[.agg (bA (scl n y x true))] (.tuple #[nv A, .bool f])) : Dt 49 #[nf n x, .int .u64 y] (.tuple #[nv A, .bool f]) := fun w => by
  obtain ⟨⟨a1, a2⟩, a3⟩ := okN_iff.1 h
  have hy2 := (wt_iff.1 hy).2
  have hp := mul116 a3 hy2
  have O := Lib.hid (dROfN (to128 a3)); have P := Lib.hid (dProduct n (show y < 2 ^ 64 by omega)); have B := Lib.hid (dRBits (show x < 2 ^ 64 by omega))
  have Q := Lib.hid (dQuot (a := n * y) (d := x) (Nat.lt_trans hp (by decide)) (by omega) (by omega))
  have hr : n * y % x < 2 ^ 256 := Nat.lt_trans (Nat.mod_lt _ (by omega)) (Nat.lt_of_le_of_lt a2 (by decide))
  have Z : ∀ w, (binOp .neq 32 (.agg (bA (n * y % x))) (.agg (bA 0))).run Try.prog w = .ok (.bool (decide (n * y % x ≠ 0))) w := fun w => by rw [bits_neq, Nat.mod_eq_of_lt hr]
  rw [scl_up'] at hN
  by_cases h0 : n * y % x = 0
  · rw [if_neg (by simpa using h0), Nat.add_zero] at hN
    rw [show decide (n * y % x ≠ 0) = false by simp [h0]] at Z
    exact rover_even _ _ x y n _ _ _ 0 _ _ w f O P B Q (Lib.hid Z) (Lib.hid hN)
  · rw [if_pos h0] at hN
    rw [show decide (n * y % x ≠ 0) = true by simp [h0]] at Z
    exact rover_up _ _ x y n _ _ _ _ _ _ w f O P B Q (Lib.hid Z) (Lib.hid (dRBits (by decide))) (Lib.hid (dSum _ 1)) (Lib.hid hN)
theorem dROverY {n x y : Nat} (h : okN n x = true) (hy : wt y = true) (hv : scl n y x true < 2 ^ 100) : Dt 49 #[nf n x, .int .u64 y] (.tuple #[nv (scl n y x true), .bool true]) := dROver h hy (dRNumY hv)
theorem dROverN {n x y : Nat} (h : okN n x = true) (hy : wt y = true) (hv : ¬ scl n y x true < 2 ^ 100) : Dt 49 #[nf n x, .int .u64 y] (.tuple #[nv 0, .bool false]) := dROver h hy (dRNumN hv (by
  obtain ⟨⟨a1, a2⟩, a3⟩ := okN_iff.1 h
  have hp := mul116 a3 (wt_iff.1 hy).2
  have h1 : n * y / x ≤ n * y := Nat.div_le_self _ _
  rw [scl_up']
  split <;> omega))
end Go.Proofs.Ytpjdojnbajoafaa
