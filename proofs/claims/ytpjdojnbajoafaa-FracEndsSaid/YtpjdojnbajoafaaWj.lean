/- package wide's product on seven parts: its contract, whatever the world. -/
import Derived.Test.YtpjdojnbajoafaaWi
import Derived.Deep.QuietTactic
import Derived.BigQuiet
namespace Go.Proofs.Ytpjdojnbajoafaa
open Go.RowKit

theorem qA_ext (a b : Nat) (h : ∀ j, j < 7 → dg a j = dg b j) : qA a = qA b := by
  unfold qA; congr 1; funext i; rw [h _ i.isLt]
theorem dg_mod (a j : Nat) (h : j < 7) : dg (a % 2 ^ 224) j = dg a j := by
  unfold dg
  have e : (2 : Nat) ^ 224 = 2 ^ (32 * j) * (2 ^ 32 * 2 ^ (224 - 32 * j - 32)) := by rw [← Nat.pow_add, ← Nat.pow_add]; congr 1; omega
  rw [e, Nat.mod_mul_right_div_self, Nat.mod_mul_right_mod]
theorem qA_mod (a : Nat) : qA (a % 2 ^ 224) = qA a := qA_ext _ _ fun j h => dg_mod a j h
theorem qA_cong (a b : Nat) (h : a % 2 ^ 224 = b % 2 ^ 224) : qA a = qA b := by rw [← qA_mod a, h, qA_mod]

/-- The digit at place j of r + o 2^(32 j); and the number with another digit there. -/
theorem dg_at (r o j : Nat) (hr : r < 2 ^ (32 * j)) : dg (r + o * 2 ^ (32 * j)) j = o % 2 ^ 32 := by
  unfold dg
  rw [Nat.add_mul_div_right _ _ (Nat.two_pow_pos _), Nat.div_eq_of_lt hr, Nat.zero_add]
theorem pow32 (j : Nat) : 2 ^ (32 * (j + 1)) = 2 ^ (32 * j) * 2 ^ 32 := by rw [← Nat.pow_add]; congr 1
theorem digit_low (r x A P C : Nat) (hA : 0 < A) : (r + x * (A * (P * C))) / A % P = r / A % P := by
  have e : x * (A * (P * C)) = A * (P * (C * x)) := by rw [Nat.mul_comm x, Nat.mul_assoc, Nat.mul_assoc]
  rw [e, Nat.add_comm, Nat.mul_add_div hA, Nat.mul_add_mod]
theorem digit_high (r x B P D : Nat) (hr : r < B) : (r + x * B) / (B * (P * D)) = x / P / D := by
  rw [← Nat.div_div_eq_div_mul, ← Nat.div_div_eq_div_mul, Nat.add_mul_div_right _ _ (by omega), Nat.div_eq_of_lt hr, Nat.zero_add]
theorem dg_low' (r x i j : Nat) (h : i < j) : dg (r + x * 2 ^ (32 * j)) i = dg r i := by
  have e : 2 ^ (32 * j) = 2 ^ (32 * i) * (2 ^ 32 * 2 ^ (32 * (j - i - 1))) := by rw [← Nat.pow_add, ← Nat.pow_add]; congr 1; omega
  unfold dg
  rw [e]
  exact digit_low _ _ _ _ _ (Nat.two_pow_pos _)
theorem dg_high' (r x i j : Nat) (h : j < i) (hr : r < 2 ^ (32 * j)) : dg (r + x * 2 ^ (32 * j)) i = x / 2 ^ 32 / 2 ^ (32 * (i - j - 1)) % 2 ^ 32 := by
  have e : 2 ^ (32 * i) = 2 ^ (32 * j) * (2 ^ 32 * 2 ^ (32 * (i - j - 1))) := by rw [← Nat.pow_add, ← Nat.pow_add]; congr 1; omega
  unfold dg
  rw [e, digit_high _ _ _ _ _ hr]
theorem regroup (r v t B P : Nat) : r + v * B + t * (B * P) = r + (v + t * P) * B := by
  rw [Nat.add_mul, Nat.mul_assoc, Nat.mul_comm P, Nat.add_assoc]
theorem top_drop (v t P : Nat) (hv : v < P) : (v + t * P) / P = t ∧ (v + t * P) % P = v := by
  refine ⟨?_, ?_⟩
  · rw [Nat.add_mul_div_right _ _ (by omega), Nat.div_eq_of_lt hv, Nat.zero_add]
  · rw [Nat.add_mul_mod_self_right, Nat.mod_eq_of_lt hv]
theorem qA_digit (r o v j : Nat) (hr : r < 2 ^ (32 * j)) (hv : v < 2 ^ 32) :
    (qA (r + o * 2 ^ (32 * j))).setIfInBounds j (.int .u64 (v : Int)) = qA (r + v * 2 ^ (32 * j) + o / 2 ^ 32 * 2 ^ (32 * (j + 1))) := by
  obtain ⟨d1, d2⟩ := top_drop v (o / 2 ^ 32) (2 ^ 32) hv
  have e : r + v * 2 ^ (32 * j) + o / 2 ^ 32 * 2 ^ (32 * (j + 1)) = r + (v + o / 2 ^ 32 * 2 ^ 32) * 2 ^ (32 * j) := by
    rw [pow32]; exact regroup _ _ _ _ _
  have h1 : dg (r + (v + o / 2 ^ 32 * 2 ^ 32) * 2 ^ (32 * j)) j = v := by rw [dg_at _ _ _ hr, d2]
  have h2 : ∀ i, i < 7 → i ≠ j → dg (r + (v + o / 2 ^ 32 * 2 ^ 32) * 2 ^ (32 * j)) i = dg (r + o * 2 ^ (32 * j)) i := fun i _ hi => by
    rcases Nat.lt_or_ge i j with h | h
    · rw [dg_low' _ _ _ _ h, dg_low' _ _ _ _ h]
    · rw [dg_high' _ _ _ _ (by omega) hr, dg_high' _ _ _ _ (by omega) hr, d1]
  rw [e]
  generalize r + (v + o / 2 ^ 32 * 2 ^ 32) * 2 ^ (32 * j) = M at h1 h2 ⊢
  generalize r + o * 2 ^ (32 * j) = N at h2 ⊢
  exact qA_set N M j (v : Int) (by rw [h1]) h2

/-- One step of adding with a carry: the sum stays. -/
theorem add_step (r c o y x f S j : Nat) (hS : S = c + (o % 2 ^ 32 + y * f)) :
    r + (c + o + (y + 2 ^ 32 * x) * f) * 2 ^ (32 * j) = (r + S % 2 ^ 32 * 2 ^ (32 * j)) + (S / 2 ^ 32 + o / 2 ^ 32 + x * f) * 2 ^ (32 * (j + 1)) := by
  have ho := Nat.div_add_mod o (2 ^ 32)
  have hs := Nat.div_add_mod S (2 ^ 32)
  generalize o % 2 ^ 32 = a at *
  generalize o / 2 ^ 32 = b at *
  generalize S % 2 ^ 32 = v at *
  generalize S / 2 ^ 32 = t at *
  rw [pow32, Nat.add_mul y, Nat.mul_assoc (2 ^ 32) x f]
  generalize y * f = p at *
  generalize x * f = g at *
  have e : c + o + (p + 2 ^ 32 * g) = v + (t + b + g) * 2 ^ 32 := by omega
  rw [e, Nat.add_mul, Nat.mul_assoc, Nat.mul_comm (2 ^ 32)]
  simp only [Nat.add_assoc]
theorem add_lt (r v j : Nat) (hr : r < 2 ^ (32 * j)) (hv : v < 2 ^ 32) : r + v * 2 ^ (32 * j) < 2 ^ (32 * (j + 1)) := by
  rw [pow32, Nat.mul_comm (2 ^ (32 * j))]
  have : (v + 1) * 2 ^ (32 * j) ≤ 2 ^ 32 * 2 ^ (32 * j) := Nat.mul_le_mul_right _ hv
  rw [Nat.add_mul, Nat.one_mul] at this
  omega
theorem mul_lt32 (y f : Nat) (hy : y < 2 ^ 32) (hf : f < 2 ^ 32) : y * f ≤ 18446744065119617025 := Nat.mul_le_mul (show y ≤ 4294967295 by omega) (show f ≤ 4294967295 by omega)

theorem idx2 (x0 x1 : Value) (i : Nat) (hi : i < 2) (w : World) : (Instr.index 100 (.agg #[x0, x1]) (.int .i64 (i : Int))).run Try.prog w = .ok (if i = 0 then x0 else x1) w := by
  have h : i = 0 ∨ i = 1 := by omega
  rcases h with rfl | rfl
  · simp [Instr.index, go_sem]
  · simp [Instr.index, go_sem]
theorem mul_step (n k : Nat) : n / 2 ^ (32 * k) = dg n k + 2 ^ 32 * (n / 2 ^ (32 * (k + 1))) := by
  unfold dg
  rw [pow32, ← Nat.div_div_eq_div_mul, Nat.mod_add_div]

theorem mod_cong (r x O P z : Nat) (h : r + x * P = O + z) : r % P = (O + z) % P := by rw [← h, Nat.add_mul_mod_self_right]
theorem times_next (n m f0 f1 f i O N r z : Nat) (hi : i < 2) (hf : f = if i = 0 then f0 else f1) (hm : m = f0 + f1 * 2 ^ 32) (hO : O % 2 ^ 224 = (n * (if i = 0 then 0 else if i = 1 then f0 else m)) % 2 ^ 224)
    (h : r + z * 2 ^ (32 * 7) = O + n * f * 2 ^ (32 * i)) (o : Nat) (hN : N = r + o * 2 ^ (32 * 7)) : N % 2 ^ 224 = (n * (if i + 1 = 0 then 0 else if i + 1 = 1 then f0 else m)) % 2 ^ 224 := by
  have e0 : (2 : Nat) ^ (32 * 7) = 2 ^ 224 := by congr 1
  rw [e0] at h hN
  have e1 : N % 2 ^ 224 = (O + n * f * 2 ^ (32 * i)) % 2 ^ 224 := by rw [hN, Nat.add_mul_mod_self_right]; exact mod_cong _ _ _ _ _ h
  rw [e1, Nat.add_mod, hO, ← Nat.add_mod]
  have h2 : i = 0 ∨ i = 1 := by omega
  rcases h2 with rfl | rfl
  · simp [hf]
  · have hf' : f = f1 := by simpa using hf
    have e2 : (if 1 + 1 = 0 then 0 else if 1 + 1 = 1 then f0 else m) = m := by simp
    have e3 : (if 1 = 0 then 0 else if 1 = 1 then f0 else m) = f0 := by simp
    rw [e2, e3, hf', hm, Nat.mul_add, Nat.mul_assoc, Nat.mul_one]
theorem add_step0 (r c o S j : Nat) (hS : S = c + o % 2 ^ 32) : r + (c + o) * 2 ^ (32 * j) = (r + S % 2 ^ 32 * 2 ^ (32 * j)) + (S / 2 ^ 32 + o / 2 ^ 32) * 2 ^ (32 * (j + 1)) := by
  have := add_step r c o 0 0 0 S j (by omega)
  simpa using this
theorem more_next (M m f0 f1 f i O N r z : Nat) (hi : i < 2) (hf : f = if i = 0 then f0 else f1) (hm : m = f0 + f1 * 2 ^ 32) (hO : O % 2 ^ 224 = (M + (if i = 0 then 0 else if i = 1 then f0 else m)) % 2 ^ 224)
    (h : r + z * 2 ^ (32 * 7) = O + f * 2 ^ (32 * i)) (o : Nat) (hN : N = r + o * 2 ^ (32 * 7)) : N % 2 ^ 224 = (M + (if i + 1 = 0 then 0 else if i + 1 = 1 then f0 else m)) % 2 ^ 224 := by
  have e0 : (2 : Nat) ^ (32 * 7) = 2 ^ 224 := by congr 1
  rw [e0] at h hN
  have e1 : N % 2 ^ 224 = (O + f * 2 ^ (32 * i)) % 2 ^ 224 := by rw [hN, Nat.add_mul_mod_self_right]; exact mod_cong _ _ _ _ _ h
  rw [e1, Nat.add_mod, hO, ← Nat.add_mod]
  have h2 : i = 0 ∨ i = 1 := by omega
  rcases h2 with rfl | rfl
  · simp [hf]
  · have hf' : f = f1 := by simpa using hf
    have e2 : (if 1 + 1 = 0 then 0 else if 1 + 1 = 1 then f0 else m) = m := by simp
    have e3 : (if 1 = 0 then 0 else if 1 = 1 then f0 else m) = f0 := by simp
    rw [e2, e3, hf', hm, Nat.add_assoc, Nat.mul_one]

set_option maxRecDepth 100000 in
set_option maxHeartbeats 1000000 in
theorem times_any (n m more : Nat) (w : World) (hm : m < 2 ^ 64) (hmore : more < 2 ^ 64) :
    Calls Try.prog 59 #[.agg (qA n), .int .u64 m, .int .u64 more] w fun e w' => e = .returned (.agg (qA (n * m + more))) ∧ Below w.heap.size w w' := by
  have hz : ∀ w, (zeroValue 78).run Try.prog w = .ok (.agg (qA 0)) w := fun w => by
    rw [qA_zero]
    exact (zero_of_info' quart_info) w
  have e1 := and32 m hm
  have e2 := and32 more hmore
  have e3 : (m : Int) / 4294967296 = ((m / 2 ^ 32 : Nat) : Int) := by omega
  have e4 : (more : Int) / 4294967296 = ((more / 2 ^ 32 : Nat) : Int) := by omega
  have F0 := Lib.hid (show m % 2 ^ 32 < 2 ^ 32 from Nat.mod_lt _ (by decide))
  have F1 := Lib.hid (show m / 2 ^ 32 < 2 ^ 32 by omega)
  have F2 := Lib.hid (show m = m % 2 ^ 32 + m / 2 ^ 32 * 2 ^ 32 by omega)
  have G0 := Lib.hid (show more % 2 ^ 32 < 2 ^ 32 from Nat.mod_lt _ (by decide))
  have G1 := Lib.hid (show more / 2 ^ 32 < 2 ^ 32 by omega)
  have G2 := Lib.hid (show more = more % 2 ^ 32 + more / 2 ^ 32 * 2 ^ 32 by omega)
  generalize m % 2 ^ 32 = f0 at *
  generalize m / 2 ^ 32 = f1 at *
  generalize more % 2 ^ 32 = g0 at *
  generalize more / 2 ^ 32 = g1 at *
  have hm0 : 0 ≤ (m : Int) := by omega
  have hm1 : 0 ≤ (more : Int) := by omega
  clear hm hmore
  go_enter Try.func59, Try.ntmps59
  go_wp2_with fail
  go_loopw [21] (fun t wr => ∃ i c O : Nat, i ≤ 2 ∧ t = .int .i64 i ∧ Hid (O % 2 ^ 224 = (n * (if i = 0 then 0 else if i = 1 then f0 else m)) % 2 ^ 224) ∧
      wr = (((w.alloc (Obj.cells (qA n) 78)).alloc (Obj.cells (qA 0) 78)).alloc (Obj.cells (qA O) 78)).drewN c)
    (fun t _ => 2 - (intOf t).toNat)
  case atStart => exact ⟨0, 0, 0, by omega, rfl, rfl, rfl⟩
  case round =>
    obtain ⟨i, c0, O, hi, rfl, HO, rfl⟩ := hrel
    by_cases hlt : i < 2
    · have hi2 : (i : Int) < 2 := by omega
      have hidx := idx2 (.int .u64 (f0 : Int)) (.int .u64 (f1 : Int)) i hlt
      obtain ⟨f, hf⟩ : ∃ f, f = if i = 0 then f0 else f1 := ⟨_, rfl⟩
      have hff : (if i = 0 then Value.int .u64 (f0 : Int) else .int .u64 (f1 : Int)) = .int .u64 (f : Int) := by rw [hf]; split <;> rfl
      rw [hff] at hidx
      have FF := Lib.hid (show f < 2 ^ 32 by rw [hf]; split <;> first | exact F0.out | exact F1.out)
      have HF := Lib.hid hf
      clear hff hf
      obtain ⟨wo, hwo⟩ : ∃ wo : World, wo = (((w.alloc (Obj.cells (qA n) 78)).alloc (Obj.cells (qA 0) 78)).alloc (Obj.cells (qA O) 78)).drewN c0 := ⟨_, rfl⟩
      have Hwo := Lib.hid hwo
      rw [← hwo]
      clear hwo
      go_wp2_with fail
      go_loopw [10, 11] (fun t10 t11 wr => ∃ k r c o g : Nat, k + i ≤ 7 ∧ t11 = .int .i64 k ∧ t10 = .int .u64 c ∧ Hid (c < 2 ^ 32) ∧ Hid (r < 2 ^ (32 * (k + i))) ∧ Hid (r + (c + o + n / 2 ^ (32 * k) * f) * 2 ^ (32 * (k + i)) = O + n * f * 2 ^ (32 * i)) ∧
          wr = (((w.alloc (Obj.cells (qA n) 78)).alloc (Obj.cells (qA 0) 78)).alloc (Obj.cells (qA (r + o * 2 ^ (32 * (k + i)))) 78)).drewN g)
        (fun _ t11 _ => 7 - (intOf t11).toNat)
      case atStart =>
        refine ⟨0, O % 2 ^ (32 * i), 0, O / 2 ^ (32 * i), c0, by omega, rfl, rfl, (by decide : 0 < 2 ^ 32), ?_, ?_, ?_⟩
        · rw [Nat.zero_add]; exact (Nat.mod_lt _ (Nat.two_pow_pos _) : _ < _)
        · show _ = _
          rw [Nat.zero_add, Nat.mul_zero, Nat.pow_zero, Nat.div_one, Nat.zero_add, Nat.add_mul, ← Nat.add_assoc, Nat.mod_add_div']
        · rw [Nat.zero_add, Nat.mod_add_div']; exact Hwo.out
      case round =>
        clear Hwo hidx
        obtain ⟨k, r, c, o, g, hk, rfl, rfl, HC, HR, HT, rfl⟩ := hrel
        by_cases hlt2 : k + i < 7
        · have hk7 : k < 7 := by omega
          have hb1 : (k : Int) + (i : Int) < 7 := by omega
          have hb2 : (k : Int) < 7 := by omega
          have hq := qA_get n k hk7
          have hsz := qA_size (r + o * 2 ^ (32 * (k + i)))
          have ho := qA_at (r + o * 2 ^ (32 * (k + i))) (k + i) (by rw [hsz]; exact hlt2)
          rw [dg_at _ _ _ HR.out] at ho
          have hp := mul_lt32 (dg n k) f (dg_lt n k) FF.out
          have ha : o % 2 ^ 32 < 4294967296 := Nat.mod_lt _ (by decide)
          have hc : c < 4294967296 := HC.out
          obtain ⟨S, hS⟩ : ∃ S, S = c + (o % 2 ^ 32 + dg n k * f) := ⟨_, rfl⟩
          have hcast : (c : Int) + (((o % 2 ^ 32 : Nat) : Int) + (dg n k : Int) * (f : Int)) = (S : Int) := by rw [hS]; simp
          have hS64 : S < 2 ^ 64 := by omega
          have hv := and32 S hS64
          have hcar : (S : Int) / 4294967296 = ((S / 2 ^ 32 : Nat) : Int) := by omega
          have hp1 : (dg n k : Int) * (f : Int) ≤ 18446744065119617025 := by rw [← Int.natCast_mul]; exact Int.ofNat_le.2 hp
          have hp0 : 0 ≤ (dg n k : Int) * (f : Int) := by rw [← Int.natCast_mul]; exact Int.natCast_nonneg _
          have ha' : ((o % 2 ^ 32 : Nat) : Int) < 4294967296 := Int.ofNat_lt.2 ha
          have hS0 : 0 ≤ (S : Int) := Int.natCast_nonneg _
          have HV := Lib.hid (show S % 2 ^ 32 < 2 ^ 32 from Nat.mod_lt _ (by decide))
          have HTT := Lib.hid (show S / 2 ^ 32 < 2 ^ 32 by omega)
          have HADD := Lib.hid (add_step r c o (dg n k) (n / 2 ^ (32 * (k + 1))) f S (k + i) hS)
          rw [← mul_step] at HADD
          have HD := Lib.hid (qA_digit r o (S % 2 ^ 32) (k + i) HR.out HV.out)
          have HLT := Lib.hid (add_lt r (S % 2 ^ 32) (k + i) HR.out HV.out)
          clear hS hS64 hp ha
          generalize S % 2 ^ 32 = v at *
          generalize S / 2 ^ 32 = t at *
          generalize hoa : o % 2 ^ 32 = a at ho hcast ha'
          clear hoa
          go_wp2_with fail
          go_quiet (fail)
          go_wp2_with fail
          refine ⟨⟨k + 1, r + v * 2 ^ (32 * (k + i)), t, o / 2 ^ 32, g + nq, by omega, by go_num, rfl, HTT.out, ?_, ?_, ?_⟩, by simp [intOf]; omega⟩
          · rw [show k + 1 + i = k + i + 1 by omega]; exact HLT.out
          · show _ = _
            rw [show k + 1 + i = k + i + 1 by omega, ← HADD.out]; exact HT.out
          · rw [show k + 1 + i = k + i + 1 by omega, setCell_drewN, World.setCell_alloc_at _ _ _ _ _ (by simp), HD.out]
        · have hb1 : 7 ≤ (k : Int) + (i : Int) := by omega
          have hki : k + i = 7 := by omega
          have HO2 := Lib.hid (times_next n m f0 f1 f i O (r + o * 2 ^ (32 * (k + i))) r _ hlt HF.out F2.out HO.out (by have := HT.out; rwa [hki] at this) o (by rw [hki]))
          generalize r + o * 2 ^ (32 * (k + i)) = N at HO2 ⊢
          clear hki HT HO HR
          go_wp2_with fail
          exact ⟨⟨i + 1, g, N, by omega, by go_num, HO2.out, rfl⟩, by simp [intOf]; omega⟩
    · have hi2 : 2 ≤ (i : Int) := by omega
      have HO' : Hid (O % 2 ^ 224 = (n * m) % 2 ^ 224) := by
        obtain rfl : i = 2 := by omega
        exact HO.out
      clear HO
      go_wp2_with fail
      go_loopw [58] (fun t wr => ∃ i c O : Nat, i ≤ 2 ∧ t = .int .i64 i ∧ Hid (O % 2 ^ 224 = (n * m + (if i = 0 then 0 else if i = 1 then g0 else more)) % 2 ^ 224) ∧
          wr = (((w.alloc (Obj.cells (qA n) 78)).alloc (Obj.cells (qA 0) 78)).alloc (Obj.cells (qA O) 78)).drewN c)
        (fun t _ => 2 - (intOf t).toNat)
      case atStart => exact ⟨0, c0, O, by omega, rfl, HO'.out, rfl⟩
      case round =>
        clear HO'
        obtain ⟨i, c0, O, hi, rfl, HO, rfl⟩ := hrel
        by_cases hlt : i < 2
        · have hi2 : (i : Int) < 2 := by omega
          have hidx := idx2 (.int .u64 (g0 : Int)) (.int .u64 (g1 : Int)) i hlt
          obtain ⟨f, hf⟩ : ∃ f, f = if i = 0 then g0 else g1 := ⟨_, rfl⟩
          have hff : (if i = 0 then Value.int .u64 (g0 : Int) else .int .u64 (g1 : Int)) = .int .u64 (f : Int) := by rw [hf]; split <;> rfl
          rw [hff] at hidx
          have FF := Lib.hid (show f < 2 ^ 32 by rw [hf]; split <;> first | exact G0.out | exact G1.out)
          have HF := Lib.hid hf
          clear hff hf
          obtain ⟨wo, hwo⟩ : ∃ wo : World, wo = (((w.alloc (Obj.cells (qA n) 78)).alloc (Obj.cells (qA 0) 78)).alloc (Obj.cells (qA O) 78)).drewN c0 := ⟨_, rfl⟩
          have Hwo := Lib.hid hwo
          rw [← hwo]
          clear hwo
          go_wp2_with fail
          go_loopw [14, 15] (fun t14 t15 wr => ∃ k r c o g : Nat, k ≤ 7 ∧ t15 = .int .i64 k ∧ t14 = .int .u64 c ∧ Hid (c < 2 ^ 32) ∧ Hid (r < 2 ^ (32 * k)) ∧ Hid (r + (c + o) * 2 ^ (32 * k) = O + f * 2 ^ (32 * i)) ∧
              wr = (((w.alloc (Obj.cells (qA n) 78)).alloc (Obj.cells (qA 0) 78)).alloc (Obj.cells (qA (r + o * 2 ^ (32 * k))) 78)).drewN g)
            (fun _ t15 _ => 7 - (intOf t15).toNat)
          case atStart =>
            refine ⟨i, O % 2 ^ (32 * i), f, O / 2 ^ (32 * i), c0, by omega, rfl, rfl, FF.out, (Nat.mod_lt _ (Nat.two_pow_pos _) : _ < _), ?_, ?_⟩
            · show _ = _
              rw [Nat.add_comm f, Nat.add_mul, ← Nat.add_assoc, Nat.mod_add_div']
            · rw [Nat.mod_add_div']; exact Hwo.out
          case round =>
            clear Hwo hidx
            obtain ⟨k, r, c, o, g, hk, rfl, rfl, HC, HR, HT, rfl⟩ := hrel
            by_cases hlt2 : k < 7
            · have hb2 : (k : Int) < 7 := by omega
              have hsz := qA_size (r + o * 2 ^ (32 * k))
              have ho := qA_at (r + o * 2 ^ (32 * k)) k (by rw [hsz]; exact hlt2)
              rw [dg_at _ _ _ HR.out] at ho
              have ha : o % 2 ^ 32 < 4294967296 := Nat.mod_lt _ (by decide)
              have hc : c < 4294967296 := HC.out
              obtain ⟨S, hS⟩ : ∃ S, S = c + o % 2 ^ 32 := ⟨_, rfl⟩
              have hcast : (c : Int) + ((o % 2 ^ 32 : Nat) : Int) = (S : Int) := by rw [hS]; simp
              have hS64 : S < 2 ^ 64 := by omega
              have hv := and32 S hS64
              have hcar : (S : Int) / 4294967296 = ((S / 2 ^ 32 : Nat) : Int) := by omega
              have ha' : ((o % 2 ^ 32 : Nat) : Int) < 4294967296 := Int.ofNat_lt.2 ha
              have hS0 : 0 ≤ (S : Int) := Int.natCast_nonneg _
              have HV := Lib.hid (show S % 2 ^ 32 < 2 ^ 32 from Nat.mod_lt _ (by decide))
              have HTT := Lib.hid (show S / 2 ^ 32 < 2 ^ 32 by omega)
              have HADD := Lib.hid (add_step0 r c o S k hS)
              have HD := Lib.hid (qA_digit r o (S % 2 ^ 32) k HR.out HV.out)
              have HLT := Lib.hid (add_lt r (S % 2 ^ 32) k HR.out HV.out)
              clear hS hS64 ha
              generalize S % 2 ^ 32 = v at *
              generalize S / 2 ^ 32 = t at *
              generalize hoa : o % 2 ^ 32 = a at ho hcast ha'
              clear hoa
              go_wp2_with fail
              refine ⟨⟨k + 1, r + v * 2 ^ (32 * k), t, o / 2 ^ 32, g, by omega, by go_num, rfl, HTT.out, HLT.out, ?_, ?_⟩, by simp [intOf]; omega⟩
              · show _ = _
                rw [← HADD.out]; exact HT.out
              · rw [setCell_drewN, World.setCell_alloc_at _ _ _ _ _ (by simp), HD.out]
            · have hb1 : 7 ≤ (k : Int) := by omega
              have hki : k = 7 := by omega
              have HO2 := Lib.hid (more_next (n * m) more g0 g1 f i O (r + o * 2 ^ (32 * k)) r _ hlt HF.out G2.out HO.out (by have := HT.out; rwa [hki] at this) o (by rw [hki]))
              generalize r + o * 2 ^ (32 * k) = N at HO2 ⊢
              clear hki HT HO HR
              go_wp2_with fail
              exact ⟨⟨i + 1, g, N, by omega, by go_num, HO2.out, rfl⟩, by simp [intOf]; omega⟩
        · have hi2 : 2 ≤ (i : Int) := by omega
          have HN : Hid (qA O = qA (n * m + more)) := by
            obtain rfl : i = 2 := by omega
            exact qA_cong _ _ HO.out
          clear HO
          have f1 : IsQ ((((w.alloc (Obj.cells (qA n) 78)).alloc (Obj.cells (qA 0) 78)).alloc (Obj.cells (qA O) 78)).drewN c0) (w.heap.size + 1 + 1) O := by
            show (((w.alloc (Obj.cells (qA n) 78)).alloc (Obj.cells (qA 0) 78)).alloc (Obj.cells (qA O) 78)).heap[_]? = _
            exact (by repeat (first | (with_reducible refine heap_top _ _ _ ?_; first | (simp; done) | (simp; omega)) | rw [Below.heap_alloc _ _ _ (by first | (simp; done) | (simp; omega))]))
          have f2 : IsQ ((((w.alloc (Obj.cells (qA n) 78)).alloc (Obj.cells (qA 0) 78)).alloc (Obj.cells (qA O) 78)).drewN c0) (w.heap.size + 1) 0 := by
            show (((w.alloc (Obj.cells (qA n) 78)).alloc (Obj.cells (qA 0) 78)).alloc (Obj.cells (qA O) 78)).heap[_]? = _
            exact (by repeat (first | (with_reducible refine heap_top _ _ _ ?_; first | (simp; done) | (simp; omega)) | rw [Below.heap_alloc _ _ _ (by first | (simp; done) | (simp; omega))]))
          have f3 : Below w.heap.size w ((((w.alloc (Obj.cells (qA n) 78)).alloc (Obj.cells (qA 0) 78)).alloc (Obj.cells (qA O) 78)).drewN c0) :=
            below_drewN ((((Below.refl _ _).alloc (Nat.le_refl _) _).alloc (by simp) _).alloc (by simp; omega) _) c0
          generalize (((w.alloc (Obj.cells (qA n) 78)).alloc (Obj.cells (qA 0) 78)).alloc (Obj.cells (qA O) 78)).drewN c0 = W at f1 f2 f3 ⊢
          go_wp2_with (first
            | (with_reducible refine wpQ_load rfl (.tmp 7) rfl (w.heap.size + 1 + 1) rfl O f1 ?_)
            | (with_reducible refine wpQ_store rfl (.tmp 6) (.tmp 80) rfl (w.heap.size + 1) rfl O 0 rfl f2 ?_; intro w1 hp1))
          exact retQ rfl rfl hp1.row ⟨by rw [HN.out], hp1.below _ _ (by omega) f3⟩

end Go.Proofs.Ytpjdojnbajoafaa
