/- The law WideScales: it answers true, whatever the input. -/
import Derived.Test.YtpjdojnbajoafaaLg
import Derived.Test.YtpjdojnbajoafaaLh
import Derived.Test.YtpjdojnbajoafaaLi
import Derived.Test.YtpjdojnbajoafaaLj
import Derived.Test.YtpjdojnbajoafaaLk
import Derived.Test.YtpjdojnbajoafaaLl
namespace Go.Proofs.Ytpjdojnbajoafaa
open Go Go.RowKit

theorem scl_up (n m d : Nat) : scl n m d true = n * m / d + (if n * m % d ≠ 0 then 1 else 0) := by
  unfold scl
  by_cases h : n * m % d = 0 <;> simp [h]
theorem scl_down (n m d : Nat) : scl n m d false = n * m / d := by simp [scl]
theorem scl_self (n m : Nat) (hm : 0 < m) : scl n m m true = n := by
  rw [scl_up, Nat.mul_div_cancel _ hm, if_neg (by simp)]; rfl
theorem scl_le (n m d : Nat) (hd : 0 < d) (h : m ≤ d) : scl n m d true ≤ n := by
  rw [scl_up]
  have e := Nat.div_add_mod (n * m) d
  have l : n * m ≤ n * d := Nat.mul_le_mul_left n h
  by_cases hr : n * m % d = 0
  · rw [if_neg (by simpa using hr), Nat.add_zero]
    refine Nat.div_le_of_le_mul ?_
    rw [Nat.mul_comm d n]; exact l
  · rw [if_pos hr]
    have : n * m / d * d < n * d := by rw [Nat.mul_comm _ d]; omega
    exact Nat.lt_of_mul_lt_mul_right this
theorem scl_ge (n m d : Nat) (_hd : 0 < d) : n * m ≤ scl n m d true * d := by
  rw [scl_up, Nat.add_mul, Nat.mul_comm (n * m / d) d]
  have e := Nat.div_add_mod (n * m) d
  have hl := Nat.mod_lt (n * m) _hd
  by_cases hr : n * m % d = 0
  · rw [if_neg (by simpa using hr)]; omega
  · rw [if_pos hr, Nat.one_mul]; omega
theorem scl_back (n m d : Nat) (hd : 0 < d) (hm : 0 < m) : n ≤ scl (scl n m d true) d m true := by
  have h := scl_ge n m d hd
  rw [scl_up (scl n m d true) d m]
  have : n ≤ scl n m d true * d / m := (Nat.le_div_iff_mul_le hm).2 h
  omega
theorem scl_next (l m d : Nat) : scl l m d true = scl l m d false ∨ scl l m d true = scl l m d false + 1 := by
  rw [scl_up, scl_down]
  split
  · exact .inr rfl
  · exact .inl rfl

theorem md_of (v : Nat) (hv : v < 2 ^ 64) : mdRes v v 0 := by unfold mdRes; rw [if_pos hv]; exact ⟨rfl, rfl⟩
theorem md_big (v : Nat) (hv : ¬ v < 2 ^ 64) : mdRes v 0 131 := by unfold mdRes; rw [if_neg hv]; exact ⟨rfl, rfl⟩

theorem widescales_any (h l m d : Nat) (w : World) (hh : h < 2 ^ 64) (hl : l < 2 ^ 64) (hm : m < 2 ^ 64) (hd : d < 2 ^ 64) :
    Calls Try.prog 7 #[wv h l, .int .u64 m, .int .u64 d] w fun e w' => e = .returned (.bool true) ∧ Below w.heap.size w w' := by
  obtain ⟨n, hn⟩ : ∃ n, h * 2 ^ 64 + l = n := ⟨_, rfl⟩
  have hn2 : n < 2 ^ 128 := by omega
  have SM : 0 < m → Hid (Dt 17 #[wv h l, .int .u64 m, .int .u64 m] (.tuple #[wv h l, .int .i64 0])) := fun h0 =>
    Lib.hid (dScale hh hl hn hm h0 hm hl (by rw [scl_self n m h0]; exact sclRes_yes hn2 hn))
  by_cases d0 : d = 0
  · subst d0
    by_cases m0 : m = 0
    · subst m0
      exact ws_A h l 0 0 0 0 0 0 0 0 0 w (Lib.hid dScale0)
    · exact ws_B h l m 0 0 0 0 0 0 0 0 w (by omega) (SM (by omega)) (Lib.hid dScale0)
  · have hd1 : 0 < d := by omega
    by_cases hv : scl n m d true < 2 ^ 128
    · have SD : Hid (Dt 17 #[wv h l, .int .u64 m, .int .u64 d] (.tuple #[wv (scl n m d true / 2 ^ 64) (scl n m d true % 2 ^ 64), .int .i64 0])) := Lib.hid (dScale hh hl hn hm hd1 hd (half_lt _) (sclRes_yes hv (halves _)))
      by_cases m0 : m = 0
      · subst m0
        have z : ∀ up, scl l 0 d up = 0 := fun up => by simp [scl]
        exact ws_D h l 0 d _ _ 0 0 0 0 0 w SD (Lib.hid (dMulDiv hl hm hd1 hd (by rw [z]; exact md_of 0 (by decide)))) (Lib.hid (dMulDiv hl hm hd1 hd (by rw [z]; exact md_of 0 (by decide))))
      · have hm1 : 0 < m := by omega
        have hmi : (0 : Int) < m := by omega
        have MD := fun up x c (hs : mdRes (scl l m d up) x c) => Lib.hid (dMulDiv (up := up) hl hm hd1 hd hs)
        have vb := half_lt (scl n m d true)
        have va : scl n m d true / 2 ^ 64 < 2 ^ 64 := by omega
        have hx := scl_next l m d
        by_cases hy : scl (scl n m d true) d m true < 2 ^ 128
        · have SY := Lib.hid (dScale va vb (halves _) hd hm1 hm (half_lt _) (sclRes_yes hy (halves _)))
          have CM := Lib.hid (dCompare (half_lt (scl (scl n m d true) d m true)) hl (halves _) hn)
          have hs0 : 0 ≤ c3 (scl (scl n m d true) d m true : Nat) (n : Nat) := by
            have := scl_back n m d hd1 hm1
            unfold c3; rw [if_neg (by omega)]; split <;> decide
          by_cases g : scl l m d false < 2 ^ 64
          · by_cases f : scl l m d true < 2 ^ 64
            · by_cases q : scl l m d true = scl l m d false
              · exact ws_E1same h l m d _ _ _ _ (scl l m d true) 0 _ w hmi (SM hm1) SD SY CM hs0 (MD true _ 0 (md_of _ f)) (MD false _ 0 (by rw [q]; exact md_of _ g))
              · have q' : scl l m d true = scl l m d false + 1 := by omega
                refine ws_E1next h l m d _ _ _ _ (scl l m d false) (scl l m d true) _ w hmi (SM hm1) SD SY CM hs0 (MD true _ 0 (md_of _ f)) (MD false _ 0 (md_of _ g)) ?_ ?_
                · rw [beq_eq_false_iff_ne]; omega
                · rw [q']; simp [IntKind.wrap, IntKind.bits, IntKind.signed]; omega
            · have e : scl l m d false = 18446744073709551615 := by omega
              exact ws_E1em h l m d _ _ _ _ 0 0 _ w hmi (SM hm1) SD SY CM hs0 (MD true 0 131 (md_big _ f)) (MD false 18446744073709551615 0 (by rw [e]; exact md_of _ (by decide)))
          · exact ws_E1ee h l m d _ _ _ _ 0 0 _ w hmi (SM hm1) SD SY CM hs0 (MD true 0 131 (md_big _ (by omega))) (MD false 0 131 (md_big _ g))
        · have SY := Lib.hid (dScale (A := 0) (B := 0) (c := 131) va vb (halves _) hd hm1 hm (by decide) (sclRes_no hy))
          by_cases g : scl l m d false < 2 ^ 64
          · by_cases f : scl l m d true < 2 ^ 64
            · by_cases q : scl l m d true = scl l m d false
              · exact ws_E0same h l m d _ _ 0 0 (scl l m d true) 0 0 w hmi (SM hm1) SD SY (MD true _ 0 (md_of _ f)) (MD false _ 0 (by rw [q]; exact md_of _ g))
              · have q' : scl l m d true = scl l m d false + 1 := by omega
                refine ws_E0next h l m d _ _ 0 0 (scl l m d false) (scl l m d true) 0 w hmi (SM hm1) SD SY (MD true _ 0 (md_of _ f)) (MD false _ 0 (md_of _ g)) ?_ ?_
                · rw [beq_eq_false_iff_ne]; omega
                · rw [q']; simp [IntKind.wrap, IntKind.bits, IntKind.signed]; omega
            · have e : scl l m d false = 18446744073709551615 := by omega
              exact ws_E0em h l m d _ _ 0 0 0 0 0 w hmi (SM hm1) SD SY (MD true 0 131 (md_big _ f)) (MD false 18446744073709551615 0 (by rw [e]; exact md_of _ (by decide)))
          · exact ws_E0ee h l m d _ _ 0 0 0 0 0 w hmi (SM hm1) SD SY (MD true 0 131 (md_big _ (by omega))) (MD false 0 131 (md_big _ g))
    · have hdm : d < m := by
        rcases Nat.lt_or_ge d m with g | g
        · exact g
        · have := scl_le n m d hd1 g; omega
      exact ws_C h l m d 0 0 0 0 0 0 0 w (by omega) (SM (by omega)) (Lib.hid (dScale (A := 0) (B := 0) hh hl hn hm hd1 hd (by decide) (sclRes_no hv))) (by rw [beq_eq_false_iff_ne]; omega) (by omega)
end Go.Proofs.Ytpjdojnbajoafaa
