/- The laws of chapter 05, FracOrder, FracClips: true, whatever the input. -/
import Derived.Test.YtpjdojnbajoafaaFq
import Derived.Test.YtpjdojnbajoafaaFl
import Derived.Test.YtpjdojnbajoafaaFm
import Derived.Test.YtpjdojnbajoafaaFn
import Derived.Test.YtpjdojnbajoafaaFo
import Derived.Test.YtpjdojnbajoafaaFp
namespace Go.Proofs.Ytpjdojnbajoafaa
open Go Go.RowKit

theorem behB_iff {n x m y k : Nat} : behB n x m y k = true ↔ n * y < (m - k * y) * x := by unfold behB; exact decide_eq_true_iff
theorem behB_no {n x m y k : Nat} : behB n x m y k = false ↔ (m - k * y) * x ≤ n * y := by unfold behB; rw [decide_eq_false_iff_not]; omega

theorem fracclips_any (n x m y k : Nat) (w : World) (hn : n < 2 ^ 128) (hm : m < 2 ^ 128) (hk : k < 2 ^ 64) :
    Calls Try.prog 14 #[nf n x, nf m y, .int .u64 k] w fun e w' => e = .returned (.bool true) ∧ Below w.heap.size w w' := by
  by_cases hb : okN n x = true ∧ okN m y = true
  · obtain ⟨h1, h2⟩ := hb
    obtain ⟨⟨a1, a2⟩, a3⟩ := okN_iff.1 h1
    obtain ⟨⟨b1, b2⟩, b3⟩ := okN_iff.1 h2
    by_cases hB : behB n x m y k = true
    · by_cases hv : scl (m - k * y) x y true < 2 ^ 100
      · have hlt := behB_iff.1 hB
        have hge := scl_ge' (m - k * y) x y (by omega)
        have hok : okN (scl (m - k * y) x y true) x = true := okN_iff.2 ⟨⟨a1, a2⟩, hv⟩
        have hB0 : behB (scl (m - k * y) x y true) x m y k = false := behB_no.2 hge
        have hnv : n < scl (m - k * y) x y true := Nat.lt_of_mul_lt_mul_right (Nat.lt_of_lt_of_le hlt hge)
        have hs := scl_lt' (m - k * y) x y (by omega) (by omega)
        have hok1 := okN_le hok (Nat.sub_le _ 1)
        have hB1 : behB (scl (m - k * y) x y true - 1) x m y k = true := behB_iff.2 hs
        have Be := dBehindY hok h2 hk
        rw [hB0] at Be
        have Be1 := dBehindY hok1 h2 hk
        rw [hB1] at Be1
        exact lclips_up _ _ x _ _ y k _ _ _ _ w _ (Lib.hid (dRaiseU h1 h2 hk hB hv)) (Lib.hid Be) (Lib.hid (dFCmpY hok h1)) (c3_ge (Nat.mul_le_mul_right x (Nat.le_of_lt hnv))) (Lib.hid (dRaiseS hok h2 hk hB0)) (by omega) (Lib.hid (dFLessY (k := 1) hok (by decide))) (Lib.hid Be1)
      · exact lclips_131 _ _ x _ _ y k 0 0 0 0 w 0 (Lib.hid (dRaiseE h1 h2 hk hB hv))
    · have hB' : behB n x m y k = false := by simpa using hB
      have Be := dBehindY h1 h2 hk
      rw [hB'] at Be
      exact lclips_same _ _ x _ _ y k 0 0 0 0 w _ (Lib.hid (dRaiseS h1 h2 hk hB')) (Lib.hid Be) (Lib.hid (dFCmpY h1 h1)) (c3_ge (Nat.le_refl _))
  · have hb' : okN n x = false ∨ okN m y = false := by
      by_cases g1 : okN n x = true
      · refine .inr ?_
        cases g2 : okN m y with
        | false => rfl
        | true => exact absurd ⟨g1, g2⟩ hb
      · exact .inl (by simpa using g1)
    exact lclips_150 _ _ x _ _ y k 0 0 0 0 w 0 (Lib.hid (dRaiseN hb'))

theorem c3_swap (a b : Nat) : IntKind.i64.wrap (-(c3 (b : Int) (a : Int))) = c3 (a : Int) (b : Int) := by
  rcases Nat.lt_trichotomy a b with g | g | g
  · rw [c3_lt g, c3_gt g]; decide
  · subst g; rw [c3_eq]; decide
  · rw [c3_lt g, c3_gt g]; decide
theorem c3_le0 (a b : Nat) : c3 (a : Int) (b : Int) ≤ 0 ↔ a ≤ b := by
  rcases Nat.lt_trichotomy a b with g | g | g
  · rw [c3_lt g]; omega
  · subst g; rw [c3_eq]; omega
  · rw [c3_gt g]; omega
theorem c3_add (a b k : Nat) (x : Nat) (hx : 0 < x) : c3 (((a + k) * x : Nat) : Int) (((b + k) * x : Nat) : Int) = c3 ((a * x : Nat) : Int) ((b * x : Nat) : Int) := by
  rw [Nat.add_mul, Nat.add_mul]
  rcases Nat.lt_trichotomy (a * x) (b * x) with g | g | g
  · rw [c3_lt (by omega), c3_lt g]
  · rw [g, c3_eq, c3_eq]
  · rw [c3_gt (by omega), c3_gt g]
theorem leTrans {n x m y p z : Nat} (hy : 0 < y) (h1 : n * y ≤ m * x) (h2 : m * z ≤ p * y) : n * z ≤ p * x := by
  have a1 : n * y * z ≤ m * x * z := Nat.mul_le_mul_right z h1
  have a2 : m * z * x ≤ p * y * x := Nat.mul_le_mul_right x h2
  have e1 : n * z * y = n * y * z := by rw [Nat.mul_assoc, Nat.mul_comm z y, ← Nat.mul_assoc]
  have e2 : m * x * z = m * z * x := by rw [Nat.mul_assoc, Nat.mul_comm x z, ← Nat.mul_assoc]
  have e3 : p * x * y = p * y * x := by rw [Nat.mul_assoc, Nat.mul_comm x y, ← Nat.mul_assoc]
  have : n * z * y ≤ p * x * y := by omega
  exact Nat.le_of_mul_le_mul_right this hy

theorem fracorder_any (n x m y p z : Nat) (w : World) (hn : n < 2 ^ 128) (hm : m < 2 ^ 128) (hp : p < 2 ^ 128) :
    Calls Try.prog 13 #[nf n x, nf m y, nf p z] w fun e w' => e = .returned (.bool true) ∧ Below w.heap.size w w' := by
  by_cases ha : okN n x = true
  · by_cases hb : okN m y = true
    · by_cases hc : okN p z = true
      · obtain ⟨⟨a1, a2⟩, a3⟩ := okN_iff.1 ha
        obtain ⟨⟨b1, b2⟩, b3⟩ := okN_iff.1 hb
        have hbx : okN m x = true := okN_iff.2 ⟨⟨a1, a2⟩, b3⟩
        have KA := Lib.hid (dCheckY ha); have KB := Lib.hid (dCheckY hb); have KC := Lib.hid (dCheckY hc)
        have CAB := Lib.hid (dFCmpY ha hb); have CBA := Lib.hid (dFCmpY hb ha); have CBC := Lib.hid (dFCmpY hb hc); have CAC := Lib.hid (dFCmpY ha hc)
        have CAA : Hid (Dt 42 #[nf n x, nf n x] (.int .i64 0)) := Lib.hid (by have := dFCmpY ha ha; rwa [c3_eq] at this)
        have hneg := c3_swap (n * y) (m * x)
        have hq : p % 2 ^ 64 < 2 ^ 64 := half_lt p
        obtain ⟨q, hqq⟩ : ∃ q, p % 2 ^ 64 = q := ⟨_, rfl⟩
        rw [hqq] at hq
        have AAe : ¬ n + q < 2 ^ 100 → Hid (Dt 46 #[nf n x, .int .u64 (p % 2 ^ 64 : Nat)] (.tuple #[fv 0 0 0, .int .i64 131])) := fun h => Lib.hid (by rw [hqq]; exact dFAddE ha hq h)
        have AAo : n + q < 2 ^ 100 → Hid (Dt 46 #[nf n x, .int .u64 (p % 2 ^ 64 : Nat)] (.tuple #[nf (n + q) x, .int .i64 0])) := fun h => Lib.hid (by rw [hqq]; exact dFAddY ha hq h)
        have ABe : ¬ m + q < 2 ^ 100 → Hid (Dt 46 #[nf m x, .int .u64 (p % 2 ^ 64 : Nat)] (.tuple #[fv 0 0 0, .int .i64 131])) := fun h => Lib.hid (by rw [hqq]; exact dFAddE hbx hq h)
        have ABo : m + q < 2 ^ 100 → Hid (Dt 46 #[nf m x, .int .u64 (p % 2 ^ 64 : Nat)] (.tuple #[nf (m + q) x, .int .i64 0])) := fun h => Lib.hid (by rw [hqq]; exact dFAddY hbx hq h)
        have LE : n + q < 2 ^ 100 → Hid (Dt 45 #[nf (n + q) x, .int .u64 (p % 2 ^ 64 : Nat)] (.tuple #[nf n x, .int .i64 0])) := fun h => Lib.hid (by
          have := dFLessY (n := n + q) (x := x) (k := q) (okN_iff.2 ⟨⟨a1, a2⟩, h⟩) hq
          rw [hqq]; rwa [Nat.add_sub_cancel] at this)
        have CAB2 := Lib.hid (dFCmpY ha hbx)
        have CXY : n + q < 2 ^ 100 → m + q < 2 ^ 100 → Hid (Dt 42 #[nf (n + q) x, nf (m + q) x] (.int .i64 (c3 ((n * x : Nat) : Int) ((m * x : Nat) : Int)))) := fun h1 h2 => Lib.hid (by
          have := dFCmpY (n := n + q) (x := x) (m := m + q) (y := x) (okN_iff.2 ⟨⟨a1, a2⟩, h1⟩) (okN_iff.2 ⟨⟨a1, a2⟩, h2⟩)
          rwa [c3_add n m q x (by omega)] at this)
        by_cases s0 : n * y ≤ m * x
        · have hs := (c3_le0 (n * y) (m * x)).2 s0
          by_cases u0 : m * z ≤ p * y
          · have hu := (c3_le0 (m * z) (p * y)).2 u0
            have hv : ¬ 0 < c3 ((n * z : Nat) : Int) ((p * x : Nat) : Int) := by
              have := (c3_le0 (n * z) (p * x)).2 (leTrans (by omega) s0 u0)
              omega
            by_cases h1 : n + q < 2 ^ 100
            · by_cases h2 : m + q < 2 ^ 100
              · exact lorder_lele_ok _ _ x _ _ y _ _ z _ _ _ _ 0 w _ _ _ _ _ KA KB KC CAB CBA CAA hneg hs CBC hu CAC hv (AAo h1) (ABo h2) (LE h1) (CXY h1 h2) CAB2
              · exact lorder_lele_f _ _ x _ _ y _ _ z _ _ 0 0 0 w _ _ _ _ 0 KA KB KC CAB CBA CAA hneg hs CBC hu CAC hv (AAo h1) (ABe h2)
            · by_cases h2 : m + q < 2 ^ 100
              · exact lorder_lele_e _ _ x _ _ y _ _ z 0 0 _ _ _ w _ _ _ _ 0 KA KB KC CAB CBA CAA hneg hs CBC hu CAC hv (AAe h1) _ (ABo h2)
              · exact lorder_lele_e _ _ x _ _ y _ _ z 0 0 _ _ _ w _ _ _ _ 0 KA KB KC CAB CBA CAA hneg hs CBC hu CAC hv (AAe h1) _ (ABe h2)
          · have hu : ¬ c3 ((m * z : Nat) : Int) ((p * y : Nat) : Int) ≤ 0 := fun h => u0 ((c3_le0 _ _).1 h)
            by_cases h1 : n + q < 2 ^ 100
            · by_cases h2 : m + q < 2 ^ 100
              · exact lorder_legt_ok _ _ x _ _ y _ _ z _ _ _ _ 0 w _ _ _ 0 _ KA KB KC CAB CBA CAA hneg hs CBC hu (AAo h1) (ABo h2) (LE h1) (CXY h1 h2) CAB2
              · exact lorder_legt_f _ _ x _ _ y _ _ z _ _ 0 0 0 w _ _ _ 0 0 KA KB KC CAB CBA CAA hneg hs CBC hu (AAo h1) (ABe h2)
            · by_cases h2 : m + q < 2 ^ 100
              · exact lorder_legt_e _ _ x _ _ y _ _ z 0 0 _ _ _ w _ _ _ 0 0 KA KB KC CAB CBA CAA hneg hs CBC hu (AAe h1) _ (ABo h2)
              · exact lorder_legt_e _ _ x _ _ y _ _ z 0 0 _ _ _ w _ _ _ 0 0 KA KB KC CAB CBA CAA hneg hs CBC hu (AAe h1) _ (ABe h2)
        · have hs : ¬ c3 ((n * y : Nat) : Int) ((m * x : Nat) : Int) ≤ 0 := fun h => s0 ((c3_le0 _ _).1 h)
          by_cases h1 : n + q < 2 ^ 100
          · by_cases h2 : m + q < 2 ^ 100
            · exact lorder_gt_ok _ _ x _ _ y _ _ z _ _ _ _ 0 w _ _ 0 0 _ KA KB KC CAB CBA CAA hneg hs (AAo h1) (ABo h2) (LE h1) (CXY h1 h2) CAB2
            · exact lorder_gt_f _ _ x _ _ y _ _ z _ _ 0 0 0 w _ _ 0 0 0 KA KB KC CAB CBA CAA hneg hs (AAo h1) (ABe h2)
          · by_cases h2 : m + q < 2 ^ 100
            · exact lorder_gt_e _ _ x _ _ y _ _ z 0 0 _ _ _ w _ _ 0 0 0 KA KB KC CAB CBA CAA hneg hs (AAe h1) _ (ABo h2)
            · exact lorder_gt_e _ _ x _ _ y _ _ z 0 0 _ _ _ w _ _ 0 0 0 KA KB KC CAB CBA CAA hneg hs (AAe h1) _ (ABe h2)
      · exact lorder_badC _ _ x _ _ y _ _ z 0 0 0 0 0 w 0 0 0 0 0 (Lib.hid (dCheckY ha)) (Lib.hid (dCheckY hb)) (Lib.hid (dCheckN (by simpa using hc)))
    · exact lorder_badB _ _ x _ _ y _ _ z 0 0 0 0 0 w 0 0 0 0 0 (Lib.hid (dCheckY ha)) (Lib.hid (dCheckN (by simpa using hb)))
  · exact lorder_badA _ _ x _ _ y _ _ z 0 0 0 0 0 w 0 0 0 0 0 (Lib.hid (dCheckN (by simpa using ha)))
end Go.Proofs.Ytpjdojnbajoafaa
