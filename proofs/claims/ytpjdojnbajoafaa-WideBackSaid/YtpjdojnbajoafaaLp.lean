/- The law WideBack: it answers true, whatever the input. -/
import Derived.Test.YtpjdojnbajoafaaTa
import Derived.Test.YtpjdojnbajoafaaTb
import Derived.Test.YtpjdojnbajoafaaLn
import Derived.Test.YtpjdojnbajoafaaLo
namespace Go.Proofs.Ytpjdojnbajoafaa
open Go Go.RowKit

theorem decS_pos (n : Nat) : 0 < (decS n).size := by
  by_cases h : n < 10
  · rw [decS_small n h, digS_size]; decide
  · rw [decS_big n h, ByteArray.size_append, digS_size]; omega
theorem digS_pos (r : Nat) : 0 < (digS r).size := by rw [digS_size]; decide
theorem digS_get (r : Nat) (h : r < 10) (hk : 0 < (digS r).size) : ((digS r)[0]'hk).toNat = 48 + r := by
  have : ((digS r)[0]'hk) = UInt8.ofNat (48 + r) := rfl
  rw [this]; simp; omega
/-- The digit at place k. -/
theorem decS_get : ∀ (f n k : Nat) (hk : k < (decS n).size), n < f → ((decS n)[k]'hk).toNat = 48 + n / 10 ^ ((decS n).size - 1 - k) % 10 := by
  intro f
  induction f with
  | zero => intro n k _ h; omega
  | succ f ih =>
    intro n k hk hf
    by_cases h : n < 10
    · have e := decS_small n h
      have hs : (decS n).size = 1 := by rw [e]; rfl
      have hk0 : k = 0 := by omega
      subst hk0
      have : ((decS n)[0]'hk) = ((digS n)[0]'(digS_pos _)) := by simp only [e]
      rw [this, digS_get n h, hs]
      simp; omega
    · have e := decS_big n h
      have hs : (decS n).size = (decS (n / 10)).size + 1 := by rw [e, ByteArray.size_append, digS_size]
      by_cases hkl : k < (decS (n / 10)).size
      · have : ((decS n)[k]'hk) = ((decS (n / 10))[k]'hkl) := by
          simp only [e]; rw [ByteArray.getElem_append_left hkl]
        rw [this, ih (n / 10) k hkl (by omega), hs, Nat.div_div_eq_div_mul]
        have hp : 10 * 10 ^ ((decS (n / 10)).size - 1 - k) = 10 ^ ((decS (n / 10)).size + 1 - 1 - k) := by
          rw [← Nat.pow_succ']
          congr 1
          omega
        rw [hp]
      · have hk1 : k = (decS (n / 10)).size := by omega
        have : ((decS n)[k]'hk) = ((digS (n % 10))[0]'(digS_pos _)) := by
          simp only [e]; rw [ByteArray.getElem_append_right (by omega)]
          simp [hk1]
        rw [this, digS_get _ (Nat.mod_lt _ (by decide)), hs]
        have : (decS (n / 10)).size + 1 - 1 - k = 0 := by omega
        rw [this]; simp
theorem decS_lo : ∀ (f n : Nat), n < f → 1 < (decS n).size → 10 ^ ((decS n).size - 1) ≤ n := by
  intro f
  induction f with
  | zero => intro n h; omega
  | succ f ih =>
    intro n hf hs
    by_cases h : n < 10
    · have : (decS n).size = 1 := by rw [decS_small n h]; rfl
      omega
    · have e : (decS n).size = (decS (n / 10)).size + 1 := by rw [decS_big n h, ByteArray.size_append, digS_size]
      rw [e, Nat.add_sub_cancel]
      by_cases h1 : 1 < (decS (n / 10)).size
      · have := ih (n / 10) (by omega) h1
        have e2 : 10 ^ (decS (n / 10)).size = 10 * 10 ^ ((decS (n / 10)).size - 1) := by rw [← Nat.pow_succ']; congr 1; omega
        rw [e2]; omega
      · have := decS_pos (n / 10)
        have e1 : (decS (n / 10)).size = 1 := by omega
        rw [e1]; omega
theorem decS_hi (n : Nat) : ∀ k, n < 10 ^ (k + 1) → (decS n).size ≤ k + 1 := fun k h => decS_size k n h

theorem dText {h l n : Nat} (hh : h < 2 ^ 64) (hl : l < 2 ^ 64) (hn : h * 2 ^ 64 + l = n) : Dt 33 #[wv h l] (.string (decS n)) := fun w =>
  text_any h l n w (by omega) (Lib.hid fun w => wof_any h l n w hh hl hn)

theorem dParse {h l n : Nat} (hh : h < 2 ^ 64) (hl : l < 2 ^ 64) (hn : h * 2 ^ 64 + l = n) : Dt 32 #[.string (decS n)] (.tuple #[wv h l, .int .i64 0]) := fun w => by
  have hn2 : n < 2 ^ 128 := by omega
  have hs39 : (decS n).size ≤ 39 := decS_hi n 38 (Nat.lt_of_lt_of_le hn2 (by decide))
  have hpos := decS_pos n
  have hup : ∀ k, n < 10 ^ (k + 1) → (decS n).size ≤ k + 1 := decS_hi n
  have hlast : n / 10 ^ (decS n).size = 0 := by
    refine Nat.div_eq_of_lt ?_
    refine Classical.byContradiction fun hc => ?_
    have key : ∀ (f m : Nat), m < f → m < 10 ^ (decS m).size := by
      intro f
      induction f with
      | zero => intro m h; omega
      | succ f ih =>
        intro m hf
        by_cases h : m < 10
        · rw [decS_small m h, digS_size]; simpa using h
        · have e : (decS m).size = (decS (m / 10)).size + 1 := by rw [decS_big m h, ByteArray.size_append, digS_size]
          have := ih (m / 10) (by omega)
          rw [e, Nat.pow_succ]; omega
    exact hc (key (n + 1) n (by omega))
  obtain ⟨v, hv⟩ : ∃ v : Nat → Nat, v = fun k => n / 10 ^ ((decS n).size - k) := ⟨_, rfl⟩
  have hv0 : v 0 = 0 := by rw [hv]; simpa using hlast
  have hd : ∀ k (hk : k < (decS n).size), 48 ≤ ((decS n)[k]'hk).toNat ∧ ((decS n)[k]'hk).toNat ≤ 57 := fun k hk => by
    rw [decS_get (n + 1) n k hk (by omega)]; omega
  have hvs : ∀ k (hk : k < (decS n).size), v (k + 1) = v k * 10 + (((decS n)[k]'hk).toNat - 48) := fun k hk => by
    rw [decS_get (n + 1) n k hk (by omega), hv]
    have e1 : (decS n).size - (k + 1) = (decS n).size - 1 - k := by omega
    have e2 : (decS n).size - k = ((decS n).size - 1 - k) + 1 := by omega
    simp only [e1, e2, Nat.pow_succ, ← Nat.div_div_eq_div_mul]
    omega
  have hvn : v (decS n).size = n := by rw [hv]; simp
  have W : Dt 54 #[.agg (qA (v (decS n).size))] (.tuple #[wv h l, .bool true]) := fun w => by
    rw [hvn]
    refine (qwide_any n w (Nat.lt_trans hn2 (by decide))).mono ?_
    rintro e w1 ⟨h', l', rfl, _, hl', e2, hb⟩
    rw [Nat.mod_eq_of_lt hn2] at e2
    obtain ⟨rfl, rfl⟩ := of_parts h' l' h l hl' hl (by rw [e2, hn])
    exact ⟨by rw [show few n = true from decide_eq_true hn2], hb⟩
  have hne : (decS n).toList = [] ↔ False := by
    constructor
    · intro e
      rw [ByteArray.toList_eq] at e
      have e2 := congrArg List.length e
      rw [Array.length_toList] at e2
      have e3 : (decS n).size = 0 := e2
      omega
    · exact False.elim
  by_cases h1 : 1 < (decS n).size
  · have hlo := decS_lo (n + 1) n (by omega) h1
    have hc : ((decS n)[0]'hpos).toNat ≠ 48 := by
      rw [decS_get (n + 1) n 0 hpos (by omega), Nat.sub_zero]
      have p1 : 0 < 10 ^ ((decS n).size - 1) := Nat.pow_pos (by decide)
      have q1 : 1 ≤ n / 10 ^ ((decS n).size - 1) := (Nat.le_div_iff_mul_le p1).2 (by omega)
      have q2 : n / 10 ^ ((decS n).size - 1) < 10 := by
        rw [Nat.div_lt_iff_lt_mul p1]
        have e : 10 * 10 ^ ((decS n).size - 1) = 10 ^ (decS n).size := by rw [← Nat.pow_succ']; congr 1; omega
        rw [e]
        have p2 : 0 < 10 ^ (decS n).size := Nat.pow_pos (by decide)
        refine Classical.byContradiction fun hc => ?_
        have := (Nat.le_div_iff_mul_le p2 (x := 1) (y := n)).2 (by omega)
        omega
      omega
    refine parse_long (decS n) h l ((decS n)[0]'hpos).toNat w (Lib.hid hs39) (by omega) (Lib.hid hpos) (Lib.hid hd) hne v hv0 (Lib.hid hvs) (Lib.hid W) (by omega) (Lib.hid fun w => ?_) (by rw [beq_eq_false_iff_ne]; omega)
    go_simp
  · exact parse_short (decS n) h l 0 w (Lib.hid hs39) (by omega) (Lib.hid hpos) (Lib.hid hd) hne v hv0 (Lib.hid hvs) (Lib.hid W) (by omega)

theorem wideback_any (h l H L d : Nat) (w : World) (hh : h < 2 ^ 64) (hl : l < 2 ^ 64) (hH : H < 2 ^ 64) (hL : L < 2 ^ 64) (hd : d < 2 ^ 64) :
    Calls Try.prog 8 #[wv h l, wv H L, .int .u64 d] w fun e w' => e = .returned (.bool true) ∧ Below w.heap.size w w' := by
  obtain ⟨n, hn⟩ : ∃ n, h * 2 ^ 64 + l = n := ⟨_, rfl⟩
  obtain ⟨m, hm⟩ : ∃ m, H * 2 ^ 64 + L = m := ⟨_, rfl⟩
  have hn2 : n < 2 ^ 128 := by omega
  have TX := Lib.hid (dText hh hl hn)
  have PA := Lib.hid (dParse hh hl hn)
  have S1 : ∀ (hk : n + m < 2 ^ 128), Hid (Dt 30 #[wv ((n + m) / 2 ^ 64) ((n + m) % 2 ^ 64), wv H L] (.tuple #[wv h l, .int .i64 0])) := fun hk => Lib.hid (dSubYes (by omega) (half_lt _) (halves (n + m)) hH hL hm (Nat.le_add_left m n) hl (by rw [hn, Nat.add_sub_cancel]))
  have S2 : ∀ (hk : n + m < 2 ^ 128), Hid (Dt 30 #[wv ((n + m) / 2 ^ 64) ((n + m) % 2 ^ 64), wv h l] (.tuple #[wv H L, .int .i64 0])) := fun hk => Lib.hid (dSubYes (by omega) (half_lt _) (halves (n + m)) hh hl hn (Nat.le_add_right n m) hL (by rw [hm, Nat.add_sub_cancel_left]))
  have AD : ∀ A B c, B < 2 ^ 64 → sclRes (n + m) A B c → Hid (Dt 24 #[wv h l, wv H L] (.tuple #[wv A B, .int .i64 c])) := fun A B c hB hs => Lib.hid (dAdd hh hl hn hH hL hm hB hs)
  by_cases d0 : d = 0
  · subst d0
    by_cases hk : n + m < 2 ^ 128
    · exact wb_ok0 h l H L 0 _ _ 0 0 0 0 0 0 0 0 _ w (AD _ _ 0 (half_lt _) (sclRes_yes hk (halves _))) TX PA (S1 hk) (S2 hk) (Lib.hid dDiv0)
    · exact wb_no0 h l H L 0 0 0 0 0 0 0 0 0 0 0 _ w (AD 0 0 131 (by decide) (sclRes_no hk)) TX PA (Lib.hid dDiv0)
  · have hd1 : 0 < d := by omega
    obtain ⟨q, hq⟩ : ∃ q, q = n / d := ⟨_, rfl⟩
    obtain ⟨r, hr⟩ : ∃ r, r = n % d := ⟨_, rfl⟩
    have hqr : d * q + r = n := by rw [hq, hr]; exact Nat.div_add_mod n d
    have hrd : r < d := by rw [hr]; exact Nat.mod_lt _ hd1
    have hqn : q ≤ n := by rw [hq]; exact Nat.div_le_self _ _
    obtain ⟨X, hX⟩ : ∃ X, X = q / 2 ^ 64 := ⟨_, rfl⟩
    obtain ⟨Y, hY⟩ : ∃ Y, Y = q % 2 ^ 64 := ⟨_, rfl⟩
    have hXY : X * 2 ^ 64 + Y = q := by rw [hX, hY]; exact halves q
    have hYl : Y < 2 ^ 64 := by rw [hY]; exact half_lt q
    have hXl : X < 2 ^ 64 := by omega
    have e1 : d * q = X * d * 2 ^ 64 + Y * d := by
      rw [← hXY, Nat.mul_add, Nat.mul_comm d Y, ← Nat.mul_assoc, Nat.mul_comm d X]
    have hXd : X * d < 2 ^ 64 := by omega
    have hYd : Y * d < 2 ^ 128 := by omega
    have DI : Hid (Dt 16 #[wv h l, .int .u64 d] (.tuple #[wv X Y, .int .u64 r, .int .i64 0])) := Lib.hid (by rw [hr]; exact dDiv hh hl hn hd1 hd hYl (by rw [hXY, hq]))
    have M1 : Hid (Dt 27 #[.int .u64 Y, .int .u64 d] (wv (Y * d / 2 ^ 64) (Y * d % 2 ^ 64))) := Lib.hid (dMul hYl hd (half_lt _) (halves _))
    have M2 : Hid (Dt 27 #[.int .u64 X, .int .u64 d] (wv 0 (X * d))) := Lib.hid (dMul hXl hd hXd (by rw [Nat.zero_mul, Nat.zero_add]))
    have f1 : Y * d + X * d * 2 ^ 64 = d * q := by rw [e1, Nat.add_comm]
    have f2 : d * q < 2 ^ 128 := by omega
    have g1 : Y * d / 2 ^ 64 < 2 ^ 64 := by omega
    have g2 : d * q / 2 ^ 64 < 2 ^ 64 := by omega
    have g3 : r < 2 ^ 64 := by omega
    have A1 : Hid (Dt 24 #[wv (Y * d / 2 ^ 64) (Y * d % 2 ^ 64), .agg #[.int .u64 (X * d : Nat), .int .u64 0]] (.tuple #[wv (d * q / 2 ^ 64) (d * q % 2 ^ 64), .int .i64 0])) :=
      Lib.hid (dAdd (m := X * d * 2 ^ 64) (H := X * d) (L := 0) g1 (half_lt _) (halves _) hXd (by decide) (Nat.add_zero _) (half_lt _) (sclRes_yes (by rw [f1]; exact f2) (by rw [halves, f1])))
    have A2 : Hid (Dt 24 #[wv (d * q / 2 ^ 64) (d * q % 2 ^ 64), .agg #[.int .u64 0, .int .u64 r]] (.tuple #[wv h l, .int .i64 0])) :=
      Lib.hid (dAdd (m := r) (H := 0) (L := r) g2 (half_lt _) (halves _) (by decide) g3 (by rw [Nat.zero_mul, Nat.zero_add]) hl (sclRes_yes (by rw [hqr]; exact hn2) (by rw [hqr]; exact hn)))
    by_cases hk : n + m < 2 ^ 128
    · exact wb_ok1 h l H L d _ _ X Y _ _ _ _ _ r _ w (AD _ _ 0 (half_lt _) (sclRes_yes hk (halves _))) TX PA (S1 hk) (S2 hk) DI M1 M2 hrd A1 (Lib.hid (dOf r)) A2
    · exact wb_no1 h l H L d 0 0 X Y _ _ _ _ _ r _ w (AD 0 0 131 (by decide) (sclRes_no hk)) TX PA DI M1 M2 hrd A1 (Lib.hid (dOf r)) A2
end Go.Proofs.Ytpjdojnbajoafaa
